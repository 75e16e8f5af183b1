/- Lemmas toward the given statement (part 19 of 20): DecEq Bytes Fix FixB BackA BackB Thr Ha TFlA TFls StrB Pa. Each theorem states its own conditions; nothing is assumed beyond them. -/
import Derived.Test.YtmiemlhgkgfkeaaGreatDoorTw18
import Derived.Test.YtmiemlhgkgfkeaaGreatDoorTw03
import Derived.Test.YtmiemlhgkgfkeaaGreatDoorTw02
import Derived.Test.YtmiemlhgkgfkeaaGreatDoorTw17
import Derived.Laws.IdiomStrings
import Derived.Test.YtmiemlhgkgfkeaaGreatDoorTw11
import Derived.Test.YtmiemlhgkgfkeaaGreatDoorTw12
set_option maxRecDepth 100000
section
namespace Go.Sky
open Go Go.Eng
theorem FC:∀ (xs:List Zr) (k:Nat) (b:List Int),(XA xs k b).length=b.length+16*xs.length
 | [],_,_=>rfl
 | x::xs,k,b=>by
  unfold XA
  simp only
  rw[FC xs]
  simp only[aI,Y8,aG]
  show b.length+8+2+4+2+16*xs.length=_
  omega
def body (f:Zs):List Int:=XA f.Plots 0 (((([83,87]:List Int)++be (Z0 f.Radar) 1)++be (Z0 f.Time) 4)++be (Z0 (f.Plots.length:Int)) 2)
theorem LF (f:Zs):(body f).length=9+16*f.Plots.length:=by
 unfold body
 rw[FC]
 simp only[aI,Y8]
 rfl
theorem GZ (f:Zs):(∃ e,YF f=(⟨#[]⟩,e)∧e≠0∧Xm f=e)∨Xm f=0∧f.Plots.length≤32∧YF f=(strOf (body f++be (Z0 (QR (strOf (body f)))) 2),0):=by
 cases h:(Xm f != 0)
 ·refine .inr ⟨by simpa using h,XY rfl h,?_⟩
  unfold YF
  show cond (Xm f != 0) _ _=_
  rw[h]
  rfl
 ·refine .inl ⟨Xm f,?_,by simpa using h,rfl⟩
  unfold YF
  show cond (Xm f != 0) _ _=_
  rw[h]
  rfl
structure Dec (s:ByteArray) (n:Int) (xs:List Zr):Prop where
 n0:0≤n
 n1:n≤32
 num:Yq (s.extract 7 9)=n
 time:Yq (s.extract 3 7)≤200000
 b0:bat s 0=83
 b1:bat s 1=87
 long:11+16*n≤(s.size:Int)
 sum:Yq (s.extract (9+16*n).toNat (11+16*n).toNat)=Z0 (QR (s.extract 0 (9+16*n).toNat))
 plots:XL s (Yq (s.extract 3 7)) n.toNat 0 []=.inl xs
 enc:(YF ⟨w64 (bat s 2),w64 (Yq (s.extract 3 7)),xs⟩).2=0
 same:seq (YF ⟨w64 (bat s 2),w64 (Yq (s.extract 3 7)),xs⟩).1 (s.extract 0 (11+16*n).toNat)=true
theorem D5 (s:ByteArray) (t:Int):∀ (m k:Nat) (o:List Zr),(∃ xs,XL s t m k o=.inl xs)∨XL s t m k o=.inr (⟨0,0,[]⟩,0,3)
 | 0,_,o=>.inl ⟨o,rfl⟩
 | m+1,k,o=>by
  unfold XL
  simp only
  cases h:((ZQ (Yq ((s).extract ((9+((16*k:Nat):Int)).toNat) ((w64 ((9+((16*k:Nat):Int))+8)).toNat))) 0).2.2 != 0)
  ·rw[cond_false];exact D5 s t m (k+1) _
  ·exact .inr rfl
theorem FD (s:ByteArray):(∃ e,ZE s=(⟨0,0,[]⟩,0,e)∧e≠0)∨∃ n xs,Dec s n xs∧ZE s=(⟨w64 (bat s 2),w64 (Yq (s.extract 3 7)),xs⟩,11+16*n,0):=by
 unfold ZE
 cases h1:decide ((s.size:Int)>0)
 ·have h:=of_decide_eq_false h1
  exact .inl ⟨8,by rw[cond_false,decide_eq_false (show ¬ (s.size:Int)>1 by omega),cond_false,decide_eq_true (show (s.size:Int)<9 by omega),cond_true],by decide⟩
 rw[cond_true]
 cases h2:((bat s 0) != 83)
 case true=>exact .inl ⟨3,rfl,by decide⟩
 rw[cond_false]
 cases h3:decide ((s.size:Int)>1)
 ·have h:=of_decide_eq_false h3
  exact .inl ⟨8,by rw[cond_false,decide_eq_true (show (s.size:Int)<9 by omega),cond_true],by decide⟩
 rw[cond_true]
 cases h4:((bat s 1) != 87)
 case true=>exact .inl ⟨3,rfl,by decide⟩
 rw[cond_false]
 cases h5:decide ((s.size:Int)<9)
 case true=>exact .inl ⟨8,rfl,by decide⟩
 rw[cond_false]
 simp only
 cases h6:((decide (Yq (s.extract 3 7)>200000))||(decide (Yq (s.extract 7 9)>32)))
 case true=>exact .inl ⟨3,rfl,by decide⟩
 rw[cond_false]
 simp only[bR,decide_eq_false_iff_not] at h6
 have hn0:=YP (s:=s.extract 7 9) rfl
 have ht:=h6.1
 have hn:=h6.2
 obtain⟨e1,e2,_,_⟩:=Yk hn0 hn
 generalize hn_:Yq (s.extract 7 9)=n at hn0 hn e1 e2 ⊢
 rw[e1]
 have e3:w64 (11+16*n-2)=9+16*n:=by rw[← e1];exact e2
 rw[e3,show (11+16*n-11)/16=n by omega]
 cases h7:decide ((s.size:Int)<11+16*n)
 case true=>exact .inl ⟨8,rfl,by decide⟩
 rw[cond_false]
 have h7:=of_decide_eq_false h7
 cases h8:(Yq (s.extract (9+16*n).toNat (11+16*n).toNat) != Z0 (QR (s.extract 0 (9+16*n).toNat)))
 case true=>exact .inl ⟨13,rfl,by decide⟩
 rw[cond_false]
 rcases D5 s (Yq (s.extract 3 7)) n.toNat 0 [] with ⟨xs,hx⟩|hx
 case inr=>rw[hx];exact .inl ⟨3,rfl,by decide⟩
 rw[hx]
 simp only[Sum.elim_inl]
 cases h9:((YF ⟨w64 (bat s 2),w64 (Yq (s.extract 3 7)),xs⟩).2 != 0)
 case true=>exact .inl ⟨3,rfl,by decide⟩
 rw[cond_false]
 cases h10:(seq (YF ⟨w64 (bat s 2),w64 (Yq (s.extract 3 7)),xs⟩).1 (s.extract 0 (11+16*n).toNat))
 ·exact .inl ⟨3,rfl,by decide⟩
 rw[dK,cond_false]
 exact .inr ⟨n,xs,⟨hn0,by omega,hn_,by omega,by simpa using h2,by simpa using h4,by omega,by simpa using h8,hx,by simpa using h9,h10⟩,rfl⟩
end Go.Sky
end
section
namespace Go.Sky
open Go Go.Eng
theorem G9 (s:ByteArray) (a b i:Nat) (h:a+i<b) (hb:b≤s.size):bat (s.extract a b) i=bat s (a+i):=by
 unfold bat
 rw[ByteArray.data_extract,Array.getElem?_extract]
 have:s.data.size=s.size:=rfl
 rw[if_pos (by omega)]
theorem Gt {s t:ByteArray} {i:Nat} (h:i<s.size):bat (s++t) i=bat s i:=by
 unfold bat
 rw[ByteArray.data_append,dT h]
theorem FG (l:List Int) (i:Nat) (h:∀ x∈l,0≤x∧x≤255):bat (strOf l) i=l[i]?.getD 0:=by
 unfold bat
 rw[← aZ,BN,cK]
 cases hx:l[i]? with
 | none=>rfl
 | some x =>
  have:=h x (aH hx)
  simp only[cE,cX]
  rw[UInt8.toNat_ofNat']
  omega
theorem Hn (n:Int):∀ m,∀ x∈be n m,0≤x∧x≤255
 | 0,x,h=>absurd h List.not_mem_nil
 | m+1,x,h=>by
  rw[be] at h
  rcases bA.1 h with rfl|h
  ·exact Qb _
  ·exact Hn n m x h
theorem GA {a b:List Int} (h1:∀ x∈a,0≤x∧x≤255) (h2:∀ x∈b,0≤x∧x≤255):∀ x∈a++b,0≤x∧x≤255:=fun x h=>by
 rcases bD.1 h with h|h
 ·exact h1 x h
 ·exact h2 x h
theorem LG:∀ (xs:List Zr) (k:Nat) (b:List Int),(∀ x∈b,0≤x∧x≤255)→∀ x∈XA xs k b,0≤x∧x≤255
 | [],_,_,h=>h
 | x::xs,k,b,h=>by
  unfold XA
  exact LG xs (k+1) _ (GA (GA (GA (GA h (Hn _ _)) (Hn _ _)) (Hn _ _)) (Hn _ _))
theorem EF (f:Zs):∀ x∈body f,0≤x∧x≤255 :=
 LG _ _ _ (GA (GA (GA (by decide) (Hn _ _)) (Hn _ _)) (Hn _ _))
def tot (s:ByteArray):Nat→Nat→Int
 | 0,_=>0
 | m+1,k=>bat s k+tot s m (k+1)
theorem Ie (s:ByteArray):∀ (m k:Nat) (a b:Int),0≤a→a<255→0≤b→b<255→∃ b',Ji s m k a b=((a+tot s m k)%255,b')∧0≤b'∧b'<255
 | 0,_,a,b,h1,h2,h3,h4=>⟨b,by unfold Ji tot;rw[Int.add_zero,Int.emod_eq_of_lt h1 h2],h3,h4⟩
 | m+1,k,a,b,h1,h2,h3,h4=>by
  have hb:=Iq s k
  unfold Ji tot
  rw[Zu (x:=bat s k) (by omega),Zu (x:=a+bat s k) (by omega),bZ (a:=a+bat s k) (by omega)]
  rw[Zu (x:=(a+bat s k)%255+b) (by omega),bZ (a:=(a+bat s k)%255+b) (by omega)]
  obtain⟨b',e,h5,h6⟩:=Ie s m (k+1) ((a+bat s k)%255) (((a+bat s k)%255+b)%255) (by omega) (by omega) (by omega) (by omega)
  refine⟨b',?_,h5,h6⟩
  rw[e]
  congr 1
  omega
theorem H5 (s:ByteArray):∃ b,QR s=256*b+tot s s.size 0%255∧0≤b∧b<255:=by
 obtain⟨b,e,h1,h2⟩:=Ie s s.size 0 0 0 (by decide) (by decide) (by decide) (by decide)
 refine⟨b,?_,h1,h2⟩
 unfold QR Xq
 rw[e]
 simp only
 rw[Int.zero_add,Zu (x:=256*b) (by omega),Zu (by omega)]
end Go.Sky
end
section
namespace Go.Sky
open Go Go.Eng
abbrev D:=FloatKind.f64.format
theorem RQ:D.signWeight=9223372036854775808:=rfl
theorem CX:D.binade=4503599627370496:=rfl
theorem CY:D.infRung=9218868437227405312:=rfl
theorem B6:D.leastPlace=-1074:=rfl
theorem On:D.fractionBits=52:=rfl
def wd (s:Bool) (E F:Nat):Nat:=s.toNat*9223372036854775808+E*4503599627370496+F
theorem Oo {s:Bool} {E F:Nat} (hE:E≤2046) (hF:F<4503599627370496):wd s E F<18446744073709551616:=by
 unfold wd;cases s <;> simp <;> omega
theorem U7 {s:Bool} {E F:Nat} (h1:1≤E) (h2:E≤2046) (hF:F<4503599627370496):D.read (wd s E F)=.number s (4503599627370496+F) ((E:Int)-1075):=by
 have hm:wd s E F%9223372036854775808=E*4503599627370496+F:=by unfold wd;cases s <;> simp <;> omega
 have hd:wd s E F/9223372036854775808%2=s.toNat:=by unfold wd;cases s <;> simp <;> omega
 unfold Ieee.Format.read
 simp only[RQ,CX,CY,B6,hm,hd]
 rw[if_neg (by omega),if_pos (by omega)]
 have e1:(E*4503599627370496+F)/4503599627370496=E:=by omega
 have e2:(E*4503599627370496+F)%4503599627370496=F:=by omega
 rw[e1,e2]
 congr 1
 ·cases s <;> rfl
 ·omega
theorem TZ:D.read 0=.number false 0 (-1074):=by
 unfold Ieee.Format.read
 simp only[RQ,CX,CY,B6]
 rfl
theorem D6 (a:Int):compare a a=Ordering.eq:=by
 show compareOfLessAndEq a a=_
 unfold compareOfLessAndEq
 rw[if_neg (by omega),if_pos rfl]
theorem Oq {a b:Int} (h:a<b):compare a b=Ordering.lt:=by
 show compareOfLessAndEq a b=_
 unfold compareOfLessAndEq
 rw[if_pos h]
theorem Ot {a b:Int} (h:b<a):compare a b=Ordering.gt:=by
 show compareOfLessAndEq a b=_
 unfold compareOfLessAndEq
 rw[if_neg (by omega),if_neg (by omega)]
theorem IK {a b:Int} (h:b≤a):compare a b≠Ordering.lt:=by
 rcases Int.lt_or_eq_of_le h with h1|h1
 ·rw[Ot h1];decide
 ·rw[h1,D6];decide
theorem IL {a b:Int} (h:a≤b):compare a b≠Ordering.gt:=by
 rcases Int.lt_or_eq_of_le h with h1|h1
 ·rw[Oq h1];decide
 ·rw[h1,D6];decide
theorem Si (m k:Nat):Ieee.signed false m k=((m <<< k:Nat):Int):=rfl
theorem Zaq (m k:Nat):Ieee.signed true m k=-((m <<< k:Nat):Int):=rfl
theorem Zar (k:Nat):Ieee.signed false 0 k=0:=by rw[Si,cW];rfl
theorem NS (m k:Nat):m≤m <<< k:=by
 rw[cB];exact Nat.le_mul_of_pos_right _ (bF k)
theorem Ou {s:Bool} {E F:Nat} (h1:1≤E) (h2:E≤2046) (hF:F<4503599627370496):feq (wd s E F) 0=false:=by
 unfold feq fcm Ieee.Format.order
 rw[U7 h1 h2 hF,TZ]
 unfold Ieee.Datum.order
 simp only
 have hk:=NS (4503599627370496+F) ((E:Int)-1075-min ((E:Int)-1075) (-1074)).toNat
 rw[Zar]
 cases s
 ·rw[Si,Ot (by omega)];rfl
 ·rw[Zaq,Oq (by omega)];rfl
theorem BS {s:Bool} {E F:Nat} (h1:1≤E) (h2:E≤2046) (hF:F<4503599627370496):fne (wd s E F) (wd s E F)=false:=by
 unfold fne fcm Ieee.Format.order
 rw[U7 h1 h2 hF]
 unfold Ieee.Datum.order
 simp only
 rw[D6]
 rfl
theorem Nr {E F:Nat} (h1:1≤E) (h2:E≤2046) (hF:F<4503599627370496):fgt (wd false E F) 9218868437227405311=false:=by
 have e:(9218868437227405311:Nat)=wd false 2046 4503599627370495:=rfl
 unfold fgt fcm Ieee.Format.order
 rw[e,U7 h1 h2 hF,U7 (by decide) (by decide) (by decide)]
 unfold Ieee.Datum.order
 simp only
 rw[Si,Si,show min ((E:Int)-1075) (((2046:Nat):Int)-1075)=(E:Int)-1075 by omega,dZ,show ((0:Int).toNat)=0 from rfl,cR]
 have hk:=NS (4503599627370496+4503599627370495) (((2046:Nat):Int)-1075-((E:Int)-1075)).toNat
 have:=IL (a:=((4503599627370496+F:Nat):Int)) (b:=(((4503599627370496+4503599627370495) <<< (((2046:Nat):Int)-1075-((E:Int)-1075)).toNat:Nat):Int)) (by omega)
 cases hc:compare ((4503599627370496+F:Nat):Int) (((4503599627370496+4503599627370495) <<< (((2046:Nat):Int)-1075-((E:Int)-1075)).toNat:Nat):Int)
 ·rfl
 ·rfl
 ·exact absurd hc this
theorem EG {E F:Nat} (h1:1≤E) (h2:E≤2046) (hF:F<4503599627370496):flt (wd false E F) 4503599627370496=false:=by
 have e:(4503599627370496:Nat)=wd false 1 0:=rfl
 unfold flt fcm Ieee.Format.order
 rw[show D.read 4503599627370496=.number false (4503599627370496+0) (((1:Nat):Int)-1075) from by rw[e];exact U7 (by decide) (by decide) (by decide),U7 h1 h2 hF]
 unfold Ieee.Datum.order
 simp only
 rw[Si,Si,show min ((E:Int)-1075) (((1:Nat):Int)-1075)=((1:Nat):Int)-1075 by omega,dZ,show ((0:Int).toNat)=0 from rfl,cR]
 have hk:=NS (4503599627370496+F) ((E:Int)-1075-(((1:Nat):Int)-1075)).toNat
 have:=IK (a:=(((4503599627370496+F) <<< ((E:Int)-1075-(((1:Nat):Int)-1075)).toNat:Nat):Int)) (b:=((4503599627370496+0:Nat):Int)) (by omega)
 cases hc:compare (((4503599627370496+F) <<< ((E:Int)-1075-(((1:Nat):Int)-1075)).toNat:Nat):Int) ((4503599627370496+0:Nat):Int)
 ·exact absurd hc this
 ·rfl
 ·rfl
theorem CZ {m k:Nat} (h1:2 ^ k≤m) (h2:m<2 ^ (k+1)):m.log2=k:=by
 have h0:m≠0:=by have:=bF k;omega
 have a:=(Nat.le_log2 h0).2 h1
 have b:=(dE h0).2 h2
 omega
theorem NT {s:Bool} {M:Nat} {p:Int} {E F:Nat} (h1:1≤E) (h2:E≤2046) (hF:F<4503599627370496) (hM:M=4503599627370496*(4503599627370496+F)) (hp:p=(E:Int)-1075-52):D.nearest s M p=wd s E F:=by
 have hl:M.log2=104:=CZ (by rw[hM];omega) (by rw[hM];omega)
 unfold Ieee.Format.nearest
 rw[if_neg (by omega)]
 simp only[hl,On,B6,CX,CY]
 rw[show max (p+((104:Nat):Int)-((52:Nat):Int)) (-1074)=(E:Int)-1075 by omega]
 rw[show (p-((E:Int)-1075)).toNat=0 by omega,show ((E:Int)-1075-p).toNat=52 by omega,show ((E:Int)-1075 - -1074).toNat=E-1 by omega,cR]
 have hc:Ieee.Toward.even.cut s M 52=4503599627370496+F:=by
  unfold Ieee.Toward.cut
  rw[hl,show min 52 (104+2)=52 from rfl]
  have hg:1 <<< 52=4503599627370496:=rfl
  simp only[hg]
  have hq:M/4503599627370496=4503599627370496+F:=by rw[hM];exact Nat.mul_div_cancel_left _ (by decide)
  have hr:M%4503599627370496=0:=by rw[hM];exact Nat.mul_mod_right _ _
  rw[hq,hr]
  simp
 rw[hc]
 unfold Ieee.Format.word wd
 rw[RQ]
 cases s <;> simp <;> omega
theorem Sj {s:Bool} {E F:Nat} (h1:1≤E) (h2:E≤2046) (hF:F<4503599627370496):Zf 4607182418800017408 (wd s E F)=wd s E F:=by
 have e:(4607182418800017408:Nat)=wd false 1023 0:=rfl
 unfold Zf Ieee.Format.mul
 rw[show D.read 4607182418800017408=.number false (4503599627370496+0) (((1023:Nat):Int)-1075) from by rw[e];exact U7 (by decide) (by decide) (by decide),U7 h1 h2 hF]
 unfold Ieee.Datum.product
 simp only[cE,cX,Bool.false_xor,bI]
 exact NT h1 h2 hF rfl (by omega)
end Go.Sky
end
section
namespace Go.Sky
open Go Go.Eng
theorem Sm {a b:Nat} (ha:a<9223372036854775808) (hb:b<9223372036854775808):Z6 .i64 (a:Int) (b:Int)=((a &&& b:Nat):Int):=by
 have hx:a &&& b≤a:=Nat.and_le_left
 have e:(BitVec.ofInt IntKind.i64.bits (a:Int) &&& BitVec.ofInt IntKind.i64.bits (b:Int)).toNat=a &&& b:=by
  rw[BitVec.toNat_and,BitVec.ofInt_natCast,BitVec.ofInt_natCast,BitVec.toNat_ofNat,BitVec.toNat_ofNat]
  have hs:(2:Nat) ^ IntKind.i64.bits=18446744073709551616:=rfl
  rw[hs,cI (by omega),cI (by omega)]
 unfold Z6
 rw[e]
 exact Zu (by omega)
theorem GE (s:Bool) {E F:Nat} (h2:E≤2046) (hF:F<4503599627370496):wd s E F/9223372036854775808=s.toNat∧wd s E F%9223372036854775808=wd false E F∧wd s E F/4503599627370496=s.toNat*2048+E∧wd s E F%4503599627370496=F:=by
 unfold wd;cases s <;> simp <;> omega
theorem Ov (s:Bool) {E F:Nat} (h2:E≤2046) (hF:F<4503599627370496):((wd s E F:Nat):Int).fdiv (2 ^ 52)=((s.toNat*2048+E:Nat):Int):=by
 rw[Int.fdiv_eq_ediv_of_nonneg _ (by decide),show (2:Int) ^ 52=((4503599627370496:Nat):Int) from rfl,← Int.natCast_ediv,(GE s h2 hF).2.2.1]
theorem LH (s:Bool) {E:Nat} (h2:E≤2046):(s.toNat*2048+E) &&& 2047=E:=by
 rw[show (2047:Nat)=2 ^ 11-1 from rfl,Nat.and_two_pow_sub_one_eq_mod]
 cases s <;> simp <;> omega
theorem Ox (s:Bool) {E F:Nat} (h2:E≤2046) (hF:F<4503599627370496):JF (wd s E F)=wd false E F:=by
 unfold JF
 rw[Uy (Oo h2 hF),(GE s h2 hF).2.1];rfl
theorem Oy (s:Bool) {E F:Nat} {e:Int} (h1:1≤E) (h2:E≤2046) (hF:F<4503599627370496) (he:1≤(E:Int)+e) (he2:(E:Int)+e≤2046):QC (wd s E F) e=wd s ((E:Int)+e).toNat F:=by
 unfold QC
 rw[Ou h1 h2 hF,cond_false]
 have hi:Vr (wd s E F) 0=false:=by
  unfold Vr
  rw[show ((0:Int)==0)=true from rfl,cond_true]
  simp only
  rw[Ox s h2 hF]
  exact Nr h1 h2 hF
 have aj:QV (wd s E F)=false:=BS h1 h2 hF
 have ct:QL (wd s E F)=(wd s E F,0):=by
  unfold QL
  simp only
  rw[Ox s h2 hF,EG h1 h2 hF,cond_false]
 simp only
 rw[hi,cond_false,aj,cond_false,ct]
 simp only
 have hx:w64 ((w64 (e+0))+(w64 ((Z6 .i64 (w64 (((wd s E F:Nat):Int).fdiv (2 ^ 52))) 2047)-1023)))=(E:Int)+e-1023:=by
  rw[Ov s h2 hF,Zu (x:=((s.toNat*2048+E:Nat):Int)) (by cases s <;> simp <;> omega)]
  have:=Sm (a:=s.toNat*2048+E) (b:=2047) (by cases s <;> simp <;> omega) (by decide)
  rw[show ((2047:Nat):Int)=2047 from rfl,LH s h2] at this
  rw[this,Zu (x:=(E:Int)-1023) (by omega),Zu (x:=e+0) (by omega),Zu (by omega)]
  omega
 rw[hx]
 rw[decide_eq_false (show ¬ (E:Int)+e-1023 < -1075 by omega),cond_false,decide_eq_false (show ¬ (E:Int)+e-1023>1023 by omega),cond_false,decide_eq_false (show ¬ (E:Int)+e-1023 < -1022 by omega),cond_false]
 rw[Zu (x:=(E:Int)+e-1023+1023) (by omega),show (E:Int)+e-1023+1023=((((E:Int)+e).toNat:Nat):Int) by omega]
 rw[Pj (Oo h2 hF) (by omega),aP,(GE s h2 hF).1,(GE s h2 hF).2.2.2]
 exact Sj (by omega) (by omega) hF
theorem HI {r L:Nat} (h1:2 ^ L≤r) (h2:r<2 ^ (L+1)) (hL:L≤51):dbl (r:Int)=wd false (L+1023) (r*2 ^ (52-L)-4503599627370496)∧4503599627370496≤r*2 ^ (52-L)∧r*2 ^ (52-L)<9007199254740992:=by
 have hl:=CZ h1 h2
 have h0:0<r:=by have:=bF L;omega
 have dx:4503599627370496≤r*2 ^ (52-L):=by
  have e:(2:Nat) ^ L*2 ^ (52-L)=4503599627370496:=by rw[← bQ,show L+(52-L)=52 by omega]
  have:=bO (2 ^ (52-L)) h1
  omega
 have gk:r*2 ^ (52-L)<9007199254740992:=by
  have e:(2:Nat) ^ (L+1)*2 ^ (52-L)=9007199254740992:=by rw[← bQ,show L+1+(52-L)=53 by omega]
  have:=cD h2 (bF (52-L))
  omega
 refine⟨?_,dx,gk⟩
 show D.nearest (decide ((r:Int)<0)) (r:Int).natAbs 0=_
 rw[decide_eq_false (by omega),eH]
 unfold Ieee.Format.nearest
 rw[if_neg (by omega)]
 simp only[hl,On,B6,CX,CY]
 rw[show max (0+(L:Int)-((52:Nat):Int)) (-1074)=(L:Int)-52 by omega]
 rw[show (0-((L:Int)-52)).toNat=52-L by omega,show ((L:Int)-52-0).toNat=0 by omega,show ((L:Int)-52 - -1074).toNat=L+1022 by omega,cB]
 have hc:∀ m,Ieee.Toward.even.cut false m 0=m:=fun m=>by
  unfold Ieee.Toward.cut
  rw[Nat.zero_min]
  simp[Nat.mod_one]
 rw[hc]
 unfold Ieee.Format.word wd
 simp
 omega
theorem RR {r L:Nat} (h1:2 ^ L≤r) (h2:r<2 ^ (L+1)) (hL:L≤51):YJ (r:Int) 0=(((wd false (L+1023) (r*2 ^ (52-L)-4503599627370496):Nat):Int),0):=by
 obtain⟨e,dx,gk⟩:=HI h1 h2 hL
 unfold YJ VZ
 rw[show (decide ((0:Int)<0)||decide ((0:Int)>60))=false from rfl,cond_false]
 simp only
 rw[e,show w64 (0-0)=0 from rfl,Oy false (by omega) (by omega) (by omega) (by omega) (by omega)]
 rw[show (((L+1023:Nat):Int)+0).toNat=L+1023 by omega]
theorem Oz {r L:Nat} (h1:2 ^ L≤r) (h2:r<2 ^ (L+1)) (hL:L≤51):∃ b,ZQ ((wd false (L+1023) (r*2 ^ (52-L)-4503599627370496):Nat):Int) 0=((r:Int),b,0):=by
 obtain⟨_,dx,gk⟩:=HI h1 h2 hL
 have hF:r*2 ^ (52-L)-4503599627370496<4503599627370496:=by omega
 have hM:r*2 ^ (52-L)-4503599627370496+4503599627370496=r*2 ^ (52-L):=by omega
 generalize hFd:r*2 ^ (52-L)-4503599627370496=F at hF hM
 have hx:wd false (L+1023) F<9223372036854775808:=by unfold wd;simp;omega
 have ak:Q3 ((wd false (L+1023) F:Nat):Int)=((L+1023:Nat):Int):=by
  unfold Q3
  rw[Ov false (by omega) hF]
  have:=GV (a:=false.toNat*2048+(L+1023)) (b:=2047) (by simp;omega) (by decide)
  rw[show ((2047:Nat):Int)=2047 from rfl,LH false (by omega)] at this
  rw[this,Zu (by omega)]
 have cu:JV ((wd false (L+1023) F:Nat):Int)=(F:Int):=by
  unfold JV
  have:=GV (a:=wd false (L+1023) F) (b:=4503599627370495) (by omega) (by decide)
  rw[show ((4503599627370495:Nat):Int)=4503599627370495 from rfl] at this
  rw[this,show (4503599627370495:Nat)=2 ^ 52-1 from rfl,Nat.and_two_pow_sub_one_eq_mod]
  have:=(GE false (E:=L+1023) (by omega) hF).2.2.2
  exact congrArg _ this
 have hor:kor .u64 (F:Int) 4503599627370496=((r*2 ^ (52-L):Nat):Int):=by
  have:=WS (a:=F) (b:=4503599627370496) (by omega) (by decide)
  rw[show ((4503599627370496:Nat):Int)=4503599627370496 from rfl] at this
  rw[this,Nat.or_comm]
  have h3:2 ^ 52*1+F=2 ^ 52*1 ||| F:=Nat.two_pow_add_eq_or_of_lt (by omega) 1
  rw[show (4503599627370496:Nat)=2 ^ 52*1 from rfl,← h3]
  omega
 have ao:((((wd false (L+1023) F:Nat):Int).fdiv (2 ^ 63))==1)=false:=by
  rw[Int.fdiv_eq_ediv_of_nonneg _ (by decide),show (2:Int) ^ 63=9223372036854775808 from rfl,Int.ediv_eq_zero_of_lt (by omega) (by omega)];rfl
 unfold ZQ
 rw[show (decide ((0:Int)<0)||decide ((0:Int)>60))=false from rfl,cond_false]
 simp only
 rw[ak,show (((L+1023:Nat):Int)==2047)=false from beq_eq_false_iff_ne.2 (by omega),cond_false,show (((L+1023:Nat):Int)==0)=false from beq_eq_false_iff_ne.2 (by omega),cond_false,cu,hor]
 rw[show (((r*2 ^ (52-L):Nat):Int)==0)=false from beq_eq_false_iff_ne.2 (by omega),cond_false]
 rw[Zu (x:=((L+1023:Nat):Int)-1075) (by omega),Zu (x:=((L+1023:Nat):Int)-1075+0) (by omega)]
 rw[decide_eq_false (show ¬ ((L+1023:Nat):Int)-1075+0≥0 by omega),cond_false,ao,eO,cond_true]
 have hk:(min (ZC (w64 (0-(((L+1023:Nat):Int)-1075+0))) 63).toNat 64)=52-L:=by
  rw[Zu (by omega)]
  unfold ZC
  split <;> omega
 rw[hk]
 have hdiv:((r*2 ^ (52-L):Nat):Int).fdiv (2 ^ (52-L))=(r:Int):=by
  rw[fR,show ((2 ^ (52-L):Nat):Int)=(2:Int) ^ (52-L) by simp]
  exact Int.mul_fdiv_cancel _ (Int.ne_of_gt (Int.pow_pos (by decide)))
 have hr:r<4503599627370496:=by
  have:=bP (show 0<2 by decide) (show L+1≤52 by omega)
  have e:(2:Nat) ^ 52=4503599627370496:=rfl
  omega
 rw[hdiv,decide_eq_false (by omega),cond_false,Zu (by omega)]
 exact⟨_,rfl⟩
theorem O0 {r:Int} (h0:0≤r) (h:r≤2000000):(ZQ (YJ r 0).1 0).1=r∧(ZQ (YJ r 0).1 0).2.2=0∧0≤(YJ r 0).1∧(YJ r 0).1<18446744073709551616:=by
 obtain⟨n,rfl⟩:∃ n:Nat,r=(n:Int):=⟨r.toNat,by omega⟩
 rcases bM n with hn|hn
 ·subst hn
  have e1:(YJ ((0:Nat):Int) 0).1=0:=by kernel_rfl
  rw[e1]
  exact⟨by kernel_rfl,by kernel_rfl,by decide,by decide⟩
 ·have h1:2 ^ n.log2≤n:=(Nat.le_log2 (by omega)).1 (aR _)
  have h2:n<2 ^ (n.log2+1):=(dE (by omega)).1 (cT _)
  have h3:n.log2≤51:=by
   have:n.log2<21:=(dE (by omega)).2 (by omega)
   omega
  obtain⟨_,dx,gk⟩:=HI h1 h2 h3
  obtain⟨b,e⟩:=Oz h1 h2 h3
  rw[RR h1 h2 h3,e]
  have:=Oo (s:=false) (E:=n.log2+1023) (F:=n*2 ^ (52-n.log2)-4503599627370496) (by omega) (by omega)
  exact⟨rfl,rfl,by omega,by omega⟩
end Go.Sky
end
section
namespace Go.Sky
open Go Go.Eng
def val (a:Nat):List Nat→Nat
 | []=>a
 | b::l=>val (a*256+b) l
theorem EH {a b:Nat} (ha:a<72057594037927936) (hb:b≤255):kor .u64 (Z0 ((a:Int)*2 ^ 8)) (Z0 (b:Int))=((a*256+b:Nat):Int):=by
 rw[JK (x:=(b:Int)) (by omega),JK (x:=(a:Int)*2 ^ 8) (by omega)]
 have e:((a:Int)*2 ^ 8)=((a*256:Nat):Int):=by omega
 rw[e,WS (by omega) (by omega)]
 have h:2 ^ 8*a+b=2 ^ 8*a ||| b:=Nat.two_pow_add_eq_or_of_lt (by omega) a
 rw[show a*256=2 ^ 8*a from cS a 256,← h]
theorem Ig (x:ByteArray):∀ (l:List Nat) (k a:Nat),(∀ b∈l,b≤255)→(∀ i,i<l.length→bat x (k+i)=((l[i]?.getD 0:Nat):Int))→(a+1)*256 ^ l.length≤18446744073709551616→J0 x l.length k (a:Int)=((val a l:Nat):Int)
 | [],_,_,_,_,_=>rfl
 | b::l,k,a,hb,hx,hlt=>by
  have h0:=hx 0 (by simp)
  simp only[bI,cG,cX] at h0
  have hb0:=hb b (aM ..)
  rw[aG,eP] at hlt
  have h1:1≤256 ^ l.length:=Nat.pow_pos (show 0<256 by decide)
  have h2:(a+1)*256≤18446744073709551616:=bH (by
   have:=Nat.mul_le_mul_left ((a+1)*256) h1
   rw[Nat.mul_one] at this
   exact this) (by rw[Nat.mul_assoc,cS 256];exact hlt)
  show J0 x (l.length+1) k (a:Int)=_
  unfold J0
  rw[h0,EH (by omega) hb0]
  unfold val
  refine Ig x l (k+1) (a*256+b) (fun c hc=>hb c (aJ _ hc)) (fun i hi=>?_) ?_
  ·have:=hx (i+1) (by simp;omega)
   rw[show k+(i+1)=k+1+i by omega,cH] at this
   exact this
  ·have:(a*256+b+1)*256 ^ l.length≤((a+1)*256)*256 ^ l.length:=bO _ (by omega)
   refine bH this ?_
   rw[Nat.mul_assoc,cS 256];exact hlt
def ben (n:Nat):Nat→List Nat
 | 0=>[]
 | m+1=>n/256 ^ m%256::ben n m
theorem Gm (n:Nat):∀ m,(ben n m).length=m
 | 0=>rfl
 | m+1=>by rw[ben,aG,Gm n m]
theorem O1 (n:Nat):∀ m,∀ b∈ben n m,b≤255
 | 0,b,h=>absurd h List.not_mem_nil
 | m+1,b,h=>by
  rw[ben] at h
  rcases bA.1 h with rfl|h
  ·have:=eN (n/256 ^ m) (show 0<256 by decide);omega
  ·exact O1 n m b h
theorem O2 (n:Nat):∀ m,m≤8→be (n:Int) m=(ben n m).map (fun b:Nat=>(b:Int))
 | 0,_=>rfl
 | m+1,h=>by
  rw[be,ben,dR,O2 n m (by omega)]
  congr 1
  rw[dO (by omega),Int.fdiv_eq_ediv_of_nonneg _ (fD (Int.pow_pos (by decide))),show (2:Int) ^ (8*m)=((256 ^ m:Nat):Int) by rw[show (256:Nat) ^ m=2 ^ (8*m) by rw[Nat.pow_mul]];simp,← Int.natCast_ediv]
  exact IntKind.wrap_u8 _
theorem Ta (n:Nat):∀ (m a:Nat),val a (ben n m)=a*256 ^ m+n%256 ^ m
 | 0,a=>by simp[ben,val,Nat.mod_one]
 | m+1,a=>by
  rw[ben,val,Ta n m,eP,Nat.mod_mul,cP]
  have:a*256*256 ^ m=a*(256 ^ m*256):=by rw[Nat.mul_assoc,cS 256]
  rw[this,cS (256 ^ m) (n/256 ^ m%256)]
  omega
theorem IM {x:ByteArray} {n m:Nat} (hm:m≤8) (hn:n<256 ^ m) (hs:x.size=m) (h:∀ i,i<m→bat x i=(be (n:Int) m)[i]?.getD 0):Yq x=(n:Int):=by
 unfold Yq Xq
 rw[hs]
 have e:=Ig x (ben n m) 0 0 (O1 n m) (fun i hi=>by
  rw[Gm] at hi
  rw[bB,h i hi,O2 n m hm,cK]
  cases (ben n m)[i]? <;> rfl) (by
  rw[Gm,bB,Nat.one_mul]
  exact bH (bP (by decide) hm) (by decide))
 rw[Gm,Ta,eF,bB,cI hn] at e
 exact e
end Go.Sky
end
section
namespace Go.Sky
open Go Go.Eng
theorem Ui {s:ByteArray} {base tot_:Nat} (A C:List Int) {n m:Nat} (hl:∀ i,i<tot_→bat s (base+i)=(A++(be (n:Int) m++C))[i]?.getD 0) (ht:A.length+m≤tot_) (hs:base+A.length+m≤s.size) (hm:m≤8) (hn:n<256 ^ m) :
  Yq (s.extract (base+A.length) (base+A.length+m))=(n:Int):=by
 refine IM hm hn (by rw[ByteArray.size_extract];omega) (fun i hi=>?_)
 rw[G9 s _ _ i (by omega) hs,eV,hl (A.length+i) (by omega),dB (by omega),Nat.add_sub_cancel_left,cA (by rw[Y8];exact hi)]
def pb (p:Zr):List Int:=be (YJ p.Range 0).1 8++(be (Z0 p.Azimuth) 2++(be (Z0 p.Height) 4++be (Z0 (w64 (p.Code+1))) 2))
theorem Sr (p:Zr):(pb p).length=16:=by
 unfold pb;simp only[aI,Y8]
theorem D7:∀ (xs:List Zr) (k:Nat) (b:List Int),XA xs k b=b++(xs.map pb).flatten
 | [],_,b=>by unfold XA;simp
 | x::xs,k,b=>by
  unfold XA
  simp only
  rw[D7 xs]
  simp only[dR,List.flatten_cons,pb,aT]
  rfl
structure IP (p:Zr):Prop where
 r:0≤p.Range∧p.Range≤2000000
 a:0≤p.Azimuth∧p.Azimuth≤4095
 h:0≤p.Height∧p.Height≤60000
 c:-1≤p.Code∧p.Code≤4095
theorem FH {f:Zs}:∀ (xs:List Zr) (k:Nat),Qh f xs k=.inl ()→∀ p∈xs,p.Radar=f.Radar∧p.Time=f.Time∧IP p
 | [],_,_,p,h=>absurd h List.not_mem_nil
 | x::xs,k,hr,p,hp=>by
  unfold Qh at hr
  cases h1:((x.Radar != f.Radar)||(x.Time != f.Time))
  ·rw[h1,cond_false] at hr
   cases h2:((((((((decide (x.Range<0))||(decide (x.Range>2000000)))||(decide (x.Azimuth<0)))||(decide (x.Azimuth>4095)))||(decide (x.Height<0)))||(decide (x.Height>60000)))||(decide (x.Code<(-1))))||(decide (x.Code>4095)))
   ·rw[h2,cond_false] at hr
    rcases bA.1 hp with rfl|hp
    ·simp only[bR,bne_eq_false_iff_eq] at h1
     simp only[bR,decide_eq_false_iff_not] at h2
     exact⟨h1.1,h1.2,⟨by omega,by omega,by omega,by omega⟩⟩
    ·exact FH xs (k+1) hr p hp
   ·rw[h2,cond_true] at hr;cases hr
  ·rw[h1,cond_true] at hr;cases hr
theorem HJ {f:Zs} (h:Xm f=0):(0≤f.Radar∧f.Radar≤255)∧(0≤f.Time∧f.Time≤200000)∧∀ p∈f.Plots,p.Radar=f.Radar∧p.Time=f.Time∧IP p:=by
 unfold Xm at h
 cases h1:decide ((f.Plots.length:Int)>32)
 ·rw[h1,cond_false] at h
  cases h2:((((decide (f.Radar<0))||(decide (f.Radar>255)))||(decide (f.Time<0)))||(decide (f.Time>200000)))
  ·rw[h2,cond_false] at h
   simp only[bR,decide_eq_false_iff_not] at h2
   refine⟨by omega,by omega,?_⟩
   have shape:∀ (xs:List Zr) (k:Nat),Qh f xs k=.inl ()∨∃ e,Qh f xs k=.inr e∧e≠0:=by
    intro xs
    induction xs with
    | nil=>intro k;exact .inl rfl
    | cons x xs ih =>
     intro k
     unfold Qh
     cases (x.Radar != f.Radar)||(x.Time != f.Time)
     ·rw[cond_false]
      cases ((((((((decide (x.Range<0))||(decide (x.Range>2000000)))||(decide (x.Azimuth<0)))||(decide (x.Azimuth>4095)))||(decide (x.Height<0)))||(decide (x.Height>60000)))||(decide (x.Code<(-1))))||(decide (x.Code>4095)))
      ·exact ih (k+1)
      ·exact .inr ⟨4,rfl,by decide⟩
     ·exact .inr ⟨3,rfl,by decide⟩
   rcases shape f.Plots 0 with hc|⟨e,hc,he⟩
   ·exact FH f.Plots 0 hc
   ·rw[hc] at h;exact absurd h he
  ·rw[h2,cond_true] at h;exact absurd h (by decide)
 ·rw[h1,cond_true] at h;exact absurd h (by decide)
theorem FI (s:ByteArray) (t:Int):∀ (xs:List Zr) (k:Nat) (o:List Zr),(∀ p∈xs,IP p∧p.Radar=w64 (bat s 2)∧p.Time=w64 t)→k+xs.length≤32→9+16*(k+xs.length)≤s.size →
  (∀ i,i<16*xs.length→bat s (9+16*k+i)=((xs.map pb).flatten)[i]?.getD 0)→XL s t xs.length k o=.inl (o++xs)
 | [],_,o,_,_,_,_=>by show Sum.inl o=_;rw[bS]
 | x::xs,k,o,hp,hk,hs,hb=>by
  obtain⟨hf,hr,ht⟩:=hp x (aM ..)
  simp only[aG] at hk hs hb
  simp only[dR,List.flatten_cons] at hb
  obtain⟨f1,f2,f3,f4⟩:=O0 hf.r.1 hf.r.2
  obtain⟨w1,w2,w3,w4⟩:=YQ k (by omega)
  have ha:=hf.a;have hh:=hf.h;have hc:=hf.c
  obtain⟨n1,e1⟩:∃ n:Nat,(YJ x.Range 0).1=(n:Int):=⟨(YJ x.Range 0).1.toNat,by omega⟩
  obtain⟨n2,e2⟩:∃ n:Nat,x.Azimuth=(n:Int):=⟨x.Azimuth.toNat,by omega⟩
  obtain⟨n3,e3⟩:∃ n:Nat,x.Height=(n:Int):=⟨x.Height.toNat,by omega⟩
  obtain⟨n4,e4⟩:∃ n:Nat,x.Code+1=(n:Int):=⟨(x.Code+1).toNat,by omega⟩
  have pbe:pb x=be (n1:Int) 8++(be (n2:Int) 2++(be (n3:Int) 4++be (n4:Int) 2)):=by
   unfold pb
   rw[e1,e4,e2,e3,JK (x:=(n2:Int)) (by omega),JK (x:=(n3:Int)) (by omega),Zu (x:=(n4:Int)) (by omega),JK (x:=(n4:Int)) (by omega)]
  rw[pbe] at hb
  generalize hR:(xs.map pb).flatten=R at hb
  have g1:=Ui (s:=s) (base:=9+16*k) (tot_:=16*(xs.length+1)) [] (be (n2:Int) 2++(be (n3:Int) 4++(be (n4:Int) 2++R))) (n:=n1) (m:=8) (fun i hi=>by rw[hb i hi];simp only[aT,cO]) (by simp;omega) (by simp;omega) (by decide) (by show n1<18446744073709551616;omega)
  have g2:=Ui (s:=s) (base:=9+16*k) (tot_:=16*(xs.length+1)) (be (n1:Int) 8) (be (n3:Int) 4++(be (n4:Int) 2++R)) (n:=n2) (m:=2) (fun i hi=>by rw[hb i hi];simp only[aT]) (by rw[Y8];omega) (by rw[Y8];omega) (by decide) (by show n2<65536;omega)
  have g3:=Ui (s:=s) (base:=9+16*k) (tot_:=16*(xs.length+1)) (be (n1:Int) 8++be (n2:Int) 2) (be (n4:Int) 2++R) (n:=n3) (m:=4) (fun i hi=>by rw[hb i hi];simp only[aT]) (by simp only[aI,Y8];omega) (by simp only[aI,Y8];omega) (by decide) (by show n3<4294967296;omega)
  have g4:=Ui (s:=s) (base:=9+16*k) (tot_:=16*(xs.length+1)) (be (n1:Int) 8++(be (n2:Int) 2++be (n3:Int) 4)) R (n:=n4) (m:=2) (fun i hi=>by rw[hb i hi];simp only[aT]) (by simp only[aI,Y8];omega) (by simp only[aI,Y8];omega) (by decide) (by show n4<65536;omega)
  simp only[aI,Y8,bJ] at g1 g2 g3 g4
  show XL s t (xs.length+1) k o=_
  unfold XL
  rw[w1,w2,w3,w4]
  rw[show (9+((16*k:Nat):Int)).toNat=9+16*k+0 by omega,show (17+16*(k:Int)).toNat=9+16*k+0+8 by omega,show (19+16*(k:Int)).toNat=9+16*k+8+2 by omega,show (23+16*(k:Int)).toNat=9+16*k+(8+2)+4 by omega,show (25+16*(k:Int)).toNat=9+16*k+(8+(2+4))+2 by omega]
  rw[g1,← e1]
  rw[show 9+16*k+0+8=9+16*k+8 by omega,g2]
  rw[show 9+16*k+8+2=9+16*k+(8+2) by omega,g3]
  rw[show 9+16*k+(8+2)+4=9+16*k+(8+(2+4)) by omega,g4]
  simp only
  rw[f2,bne_self_eq_false,cond_false,f1,Zu (x:=(n2:Int)) (by omega),Zu (x:=(n3:Int)) (by omega),Zu (x:=(n4:Int)) (by omega),Zu (x:=(n4:Int)-1) (by omega)]
  have hx:(⟨w64 (bat s 2),w64 t,x.Range,(n2:Int),(n3:Int),(n4:Int)-1⟩:Zr)=x:=by
   rw[← hr,← ht,← e2,← e3,← e4,show x.Code+1-1=x.Code by omega]
  rw[hx]
  rw[FI s t xs (k+1) (o ++ [x]) (fun p h=>hp p (aJ _ h)) (by omega) (by omega) (fun i hi=>by
   have:=hb (16+i) (by omega)
   rw[show 9+16*k+(16+i)=9+16*(k+1)+i by omega] at this
   rw[this,← hR,dB (by simp only[aI,Y8];omega)]
   simp only[aI,Y8]
   rw[show 16+i-(8+(2+(4+2)))=i by omega])]
  rw[aT];rfl
theorem IQ {s:ByteArray} {n:Int} {xs:List Zr} (hd:Dec s n xs):ZE s=(⟨w64 (bat s 2),w64 (Yq (s.extract 3 7)),xs⟩,11+16*n,0):=by
 have n0:=hd.n0;have n1:=hd.n1;have hl:=hd.long
 unfold ZE
 rw[decide_eq_true (show (s.size:Int)>0 by omega),cond_true,hd.b0,bne_self_eq_false,cond_false,decide_eq_true (show (s.size:Int)>1 by omega),cond_true,hd.b1,bne_self_eq_false,cond_false,decide_eq_false (show ¬ (s.size:Int)<9 by omega),cond_false]
 simp only
 rw[hd.num,show (decide (Yq (s.extract 3 7)>200000)||decide (n>32))=false by rw[decide_eq_false (by have:=hd.time;omega),decide_eq_false (by omega)];rfl,cond_false]
 obtain⟨e1,e2,_,_⟩:=Yk n0 (by omega)
 have e3:w64 (11+16*n-2)=9+16*n:=by rw[← e1];exact e2
 rw[e1,e3,show (11+16*n-11)/16=n by omega,decide_eq_false (show ¬ (s.size:Int)<11+16*n by omega),cond_false,hd.sum,bne_self_eq_false,cond_false,hd.plots]
 simp only[Sum.elim_inl]
 rw[hd.enc,bne_self_eq_false,cond_false,hd.same,dK,cond_false]
theorem FK {s:ByteArray} (h0:0<s.size→bat s 0=83) (h1:1<s.size→bat s 1=87) (hl:9≤s.size→∃ n,Yq (s.extract 7 9)=n∧0≤n∧n≤32∧Yq (s.extract 3 7)≤200000∧(s.size:Int)<11+16*n):(ZE s).2.2=8:=by
 unfold ZE
 rcases bM s.size with z|z
 ·rw[decide_eq_false (show ¬ (s.size:Int)>0 by omega),cond_false,decide_eq_false (show ¬ (s.size:Int)>1 by omega),cond_false,decide_eq_true (show (s.size:Int)<9 by omega),cond_true]
 ·rw[decide_eq_true (show (s.size:Int)>0 by omega),cond_true,h0 z,bne_self_eq_false,cond_false]
  rcases dP 1 s.size with z1|z1
  ·rw[decide_eq_true (show (s.size:Int)>1 by omega),cond_true,h1 z1,bne_self_eq_false,cond_false]
   rcases dP s.size 9 with z2|z2
   ·rw[decide_eq_true (show (s.size:Int)<9 by omega),cond_true]
   ·obtain⟨n,hn,n0,n1,ht,hs⟩:=hl z2
    rw[decide_eq_false (show ¬ (s.size:Int)<9 by omega),cond_false]
    simp only
    rw[hn,show (decide (Yq (s.extract 3 7)>200000)||decide (n>32))=false by rw[decide_eq_false (by omega),decide_eq_false (by omega)];rfl,cond_false]
    obtain⟨e1,_,_,_⟩:=Yk n0 (by omega)
    rw[e1,decide_eq_true hs,cond_true]
  ·rw[decide_eq_false (show ¬ (s.size:Int)>1 by omega),cond_false,decide_eq_true (show (s.size:Int)<9 by omega),cond_true]
end Go.Sky
end
section
namespace Go.Eng
def sc (s:ByteArray):Array Value:=#[.string s]
section
variable {ρ π α:Type} {f:ρ→π} {p:List π} {r:List ρ} {s:ρ} {x:π}
theorem O3 {c:ρ→Array Value} (h:p=r.map f):p.length=(r.map c).length:=by subst h;simp
theorem Ho (h:p=r.map f):p.length=r.length:=by subst h;simp
theorem Ih (h:p=r.map f) {k:Nat} (hk:k<p.length):k<r.length:=by rw[← Ho h];exact hk
theorem HK (h:p=r.map f) (k:Nat) {z:ρ}:f (r[k]?.getD z)=p[k]?.getD (f z):=by
 subst h
 rw[cK]
 cases r[k]? <;> rfl
theorem NU {w:World} {sz:Nat} {c:α→Array Value} {S:ρ→Sl α} {z:ρ} (hz:S z=Sl.zero) (h:∀ s∈r.map S,s.rd w sz c) (k:Nat):(S (r[k]?.getD z)).rd w sz c:=by
 cases hk:r[k]? with
 | none=>rw[Option.getD_none,hz];exact Sl.rd_zero w sz c
 | some y=>exact h _ (List.mem_map_of_mem (aH hk))
theorem O4 (h:p=r.map f) (e:f s=x):p ++ [x]=(r ++ [s]).map f:=by subst h e;simp
theorem Sat.bag_addm {f:ρ→Sl α} {w0:Ctx} {w:World} {M:Mem} {e sz:Nat} {c:α→Array Value} {o:List ρ} (y:ρ) (h:Sat w0 (.inr (Own (f y).A (f y).cap e sz ((f y).l.map c))::.inr (Bag e sz c (o.map f))::M) w) :
  Sat w0 (.inr (Bag e sz c ((o ++ [y]).map f))::M) w:=by
 have:=Sat.bag_add h
 rw[dD]
 exact this
end
end Go.Eng
namespace Go.Sky
open Go Go.Eng
def Zp.zero:Zp:=⟨0,0,Sl.zero⟩
end Go.Sky
end
section
namespace Go.Sky
open Go Go.Eng Go.Proofs
def YN:Nat→ByteArray→(List Zs)→Int→Option ((Unit) ⊕ ((List Zs)×Int×ByteArray×Int))
 | 0,_,_,_=>none
 | m+1,s_2,out,lost=>let r1:=ZE s_2
  cond (r1.2.2==0) (
   YN m ((s_2).extract r1.2.1.toNat ((s_2).size)) (out ++ [r1.1]) lost) (
   cond (r1.2.2==8) (
    some (.inr (out,lost,s_2,0))) (
    YN m ((s_2).extract 1 ((s_2).size)) out (w64 (lost+1))))
def Q7 (s:ByteArray):List Zs×Int×ByteArray×Int :=
 cond (decide ((s.size:Int)>131072)) (
  ([],0,(⟨#[]⟩:ByteArray),2)) (
  Sum.elim (fun _ =>
   default) (fun r=>r) ((YN (s.size+1) s ([]:List Zs) 0).getD (.inl ())))
theorem V7 {s:ByteArray} {r:Zs×Int×Int} (h:ZE s=r) (h2:(r.2.2==0)=true):11≤r.2.1∧r.2.1≤(s.size:Int):=by
 subst h
 rcases FD s with ⟨e,h,hn⟩|⟨n,xs,hd,h⟩
 ·rw[h] at h2
  exact absurd (by simpa using h2) hn
 ·rw[h]
  have:=hd.n0
  have:=hd.long
  exact⟨by show 11≤11+16*n;omega,hd.long⟩
theorem KF {s:ByteArray} {r:Zs×Int×Int} (h:ZE s=r) (h3:(r.2.2==8)=false):1≤s.size:=by
 rcases bM s.size with h0|h0
 ·subst h
  have:=FK (s:=s) (fun h=>by omega) (fun h=>by omega) (fun h=>by omega)
  rw[this] at h3
  cases h3
 ·exact h0
theorem WH:∀ (n:Nat) (s:ByteArray) (lost:Int) (out:List Zs),s.size≤n→∃ R,YN (n+1) s out lost=some R
 | n,s,lost,out,hn=>by
  unfold YN
  dsimp only
  generalize hr:ZE s=r
  cases h2:(r.2.2==0)
  ·cases h3:(r.2.2==8)
   ·have:=KF hr h3
    obtain⟨m,rfl⟩:∃ m,n=m+1:=⟨n-1,by omega⟩
    exact WH m _ _ _ (by rw[ByteArray.size_extract];omega)
   ·exact⟨_,rfl⟩
  ·have:=V7 hr h2
   obtain⟨m,rfl⟩:∃ m,n=m+1:=⟨n-1,by omega⟩
   exact WH m _ _ _ (by rw[ByteArray.size_extract];omega)
set_option maxHeartbeats 4000000 in
theorem LI (s:ByteArray) (w:World):Calls Tryz.prog 11 #[.string s] w (JD (Γ:=((Option Addr×Nat)×List (Zp))) (cx w) (fun g=>.tuple #[.slice g.1.1 ((Q7 s).1.length) g.1.2,.int .i64 ((Q7 s).2.1),.string ((Q7 s).2.2.1),.int .i64 ((Q7 s).2.2.2)]) (fun g=>[.inr (XG ((Q7 s).1=g.2.map Zp.p)),.inr (Own g.1.1 g.1.2 36 3 (g.2.map Zp.c)),.inr (Bag 40 6 Zr.c (g.2.map Zp.Plots))])):=by
 refine Zo (vs:=[.string s]) (w:=w) Tryz.func11 rfl Tryz.ntmps11 rfl (Ze (Zc 4 [] [(2,.slice none 0 0),(3,.i 0),(4,.string (⟨#[]⟩:ByteArray)),(5,.i 0)] {} (Zz (Ze (Zc 3 [] [(13,.b (decide ((s.size:Int)>131072)))] {} (Zb rfl (TC.cond (decide ((s.size:Int)>131072)) rfl Kr (fun h1=>?_) (fun h1=>?_))))))))
 ·refine Ze (Zc 4 [] [(2,.slice none 0 0),(3,.i 0),(4,.string (⟨#[]⟩:ByteArray)),(5,.i 2)] {} (Zb rfl (TC.ret (Zq ?_))))
  have e:Q7 s=([],0,(⟨#[]⟩:ByteArray),2):=by unfold Q7;exact Zk h1 (rfl)
  refine Yp [Ow none 0 36 3 (([]:List Zp).map Zp.c),.inr (Bag 40 6 Zr.c (([]:List Zp).map Zp.Plots))] (fun _ hM=>(hM.bag_nil 40 6 Zr.c).emptyrow none 36 3) ?_
  rw[e]
  exact ZN (.inl rfl) ((none,0),([]:List Zp)) [] (.tuple #[.slice none 0 0,.i 0,.string (⟨#[]⟩:ByteArray),.i 2]) {} rfl (fun _ hM=>(hM.sub (sb 3)).fact rfl)
 ·have j4:=(Zt h1)
  refine ZI (Zc 1 [] [(6,.slice none 0 0)] {} (Zv (Zc 1 [] [(7,.i 0)] {} (Zb rfl (QS [Ow none 0 36 3 (([]:List Zp).map Zp.c),.inr (Bag 40 6 Zr.c (([]:List Zp).map Zp.Plots))] (fun _ hM=>(hM.bag_nil 40 6 Zr.c).emptyrow none 36 3) ?_)))))
  obtain⟨R3,hR⟩:∃ R,YN (s.size+1) s ([]:List Zs) 0=some R:=WH s.size s 0 [] (aR _)
  refine TC.cut (S:=Unit) (fun _=>[]) (fun _=>[]) (fun _=>False) ?_ ?_
  ·refine TC.block (XB (X:=Nat×ByteArray×(List Zs)×Int×(Option Addr)×Nat×(List Zp)) (fun (m,s_2,out,lost,A_out,qg,za)=>[(0,.string s_2),(6,.slice A_out out.length qg),(7,.i lost)]) (fun (m,s_2,out,lost,A_out,qg,za)=>[Ow A_out qg 36 3 (za.map Zp.c),.inr (Bag 40 6 Zr.c (za.map Zp.Plots))]) (fun (m,s_2,out,lost,A_out,qg,za)=>m) (fun (m,s_2,out,lost,A_out,qg,za)=>m≤(s.size+1)∧YN m s_2 out lost=some R3∧out.length≤((s.size+1)-m)∧(out=za.map Zp.p)∧(s_2.size≤131072)) ?_ (s.size+1,s,([]:List Zs),0,none,0,([]:List Zp)) ⟨aR _,hR,sz,rfl,(by omega)⟩ Kr (sb 3))
   rintro⟨m,s_2,out,lost,A_out,qg,za⟩ ⟨hk,hI,wo,xn,cv⟩
   rcases m with _|m
   ·cases hI
   refine TC.block (Ze (Zc 1 [] [(15,.string s_2)] {} (UR (Γ:=AN) 16 (ZE s_2) (fun r1 g=>.tuple #[.agg #[.i r1.1.Radar,.i r1.1.Time,.slice g.1 r1.1.Plots.length g.2],.i r1.2.1,.i r1.2.2]) (fun r1 g=>[Ow g.1 g.2 40 6 (r1.1.Plots.map Zr.c)]) (fun w _=>Fb s_2 w (by omega)) {} (fun r1 hr1=>?_))))
   rintro⟨A,c⟩
   refine Y2 (fun w hM=>hM.short_at 0 rfl) (fun p7=>Zc 6 [] [(17,.agg #[.i r1.1.Radar,.i r1.1.Time,.slice A r1.1.Plots.length c]),(18,.i r1.2.1),(19,.i r1.2.2)] {} (ZH 8 (fun b1=>.p0 b1) (fun b1=>Bk b1 #[.i 0,.i 0,.slice none 0 0] 36) (fun b1=>{}) (fun b1=>Ym 0 (Bk b1 #[.i r1.1.Radar,.i r1.1.Time,.slice A r1.1.Plots.length c] 36) (fun _=>{}) (Zc 10 [] [(9,.i r1.2.1),(10,.i r1.2.2)] {} (Zv (Zc 1 [] [(20,.i r1.2.2)] {} (Zb rfl (TC.block (Ze (Zc 2 [] [(25,.b (r1.2.2==0))] {} (Zb rfl (TC.cond (r1.2.2==0) rfl Kr (fun h2=>?_) (fun h2=>?_)))))))))))))
   ·have vr:=(Xf h2)
    refine Ze (Zc 2 [0] [(27,.slice A_out out.length qg),(28,.agg #[.i r1.1.Radar,.i r1.1.Time,.slice A r1.1.Plots.length c])] {} (ZH 29 (fun b2=>.slice (Pa b2) 1 1) (fun b2=>Bk b2 #[.i r1.1.Radar,.i r1.1.Time,.slice A r1.1.Plots.length c] 36) (fun b2=>{}) (fun b2=>TL.rw 27 (.slice A_out out.length qg) (.slice A_out za.length qg) Kr (by rw[Ho xn]) (GK (Γ:=AN) (sV (Builtin.append_ #[49,49] 49 #[.slice A_out za.length qg,.slice (Pa b2) 1 1])) (some 30) (fun g=>.slice g.1 (za ++ [(⟨r1.1.Radar,r1.1.Time,(⟨A,c,r1.1.Plots⟩:Sl Zr)⟩:Zp)]).length g.2) (fun g=>[Bk b2 #[.i r1.1.Radar,.i r1.1.Time,.slice A r1.1.Plots.length c] 36,Bk b1 #[.i r1.1.Radar,.i r1.1.Time,.slice A r1.1.Plots.length c] 36,Ow A c 40 6 (r1.1.Plots.map Zr.c),Ow g.1 g.2 36 3 ((za ++ [(⟨r1.1.Radar,r1.1.Time,(⟨A,c,r1.1.Plots⟩:Sl Zr)⟩:Zp)]).map Zp.c),.inr (Bag 40 6 Zr.c (za.map Zp.Plots))]) (fun g=>[(0,.string s_2),(7,.i lost),(9,.i r1.2.1),(30,.slice g.1 ((za ++ [(⟨r1.1.Radar,r1.1.Time,(⟨A,c,r1.1.Plots⟩:Sl Zr)⟩:Zp)]).length) g.2)]) (Jc (bytes:=40) 49 3 [(⟨r1.1.Radar,r1.1.Time,(⟨A,c,r1.1.Plots⟩:Sl Zr)⟩:Zp)] Kr rfl rfl Zp.one rfl (fun w hM=>(Rd.lit hM 0 _ rfl Kr Kr Kr)) rfl (by have hz_:=Ho xn;rw[← hz_];exact(by (try have kz_:=V7 hr1 h2);(try have ko_:=KF hr1 h3);exact sa))) Kr (fun g=>Kr) ?_))))
    rintro⟨A_2,c_2⟩
    exact TL.rw 30 (.slice A_2 ((za ++ [(⟨r1.1.Radar,r1.1.Time,(⟨A,c,r1.1.Plots⟩:Sl Zr)⟩:Zp)]).length) c_2) (.slice A_2 ((out ++ [r1.1]).length) c_2) Kr (by rw[← Ho (O4 (s:=(⟨r1.1.Radar,r1.1.Time,(⟨A,c,r1.1.Plots⟩:Sl Zr)⟩:Zp)) (x:=r1.1) xn rfl)]) (YS [.inr (Bag 40 6 Zr.c ((za ++ [(⟨r1.1.Radar,r1.1.Time,(⟨A,c,r1.1.Plots⟩:Sl Zr)⟩:Zp)]).map Zp.Plots)),Bk b2 #[.i r1.1.Radar,.i r1.1.Time,.slice A r1.1.Plots.length c] 36,Bk b1 #[.i r1.1.Radar,.i r1.1.Time,.slice A r1.1.Plots.length c] 36,Ow A_2 c_2 36 3 ((za ++ [(⟨r1.1.Radar,r1.1.Time,(⟨A,c,r1.1.Plots⟩:Sl Zr)⟩:Zp)]).map Zp.c)] (fun _ hM=>Sat.bag_addm (f:=Zp.Plots) (⟨r1.1.Radar,r1.1.Time,(⟨A,c,r1.1.Plots⟩:Sl Zr)⟩:Zp) (hM.perm (((List.Perm.cons _ ((List.Perm.cons _ (aC _)).trans (List.Perm.swap _ _ _))).trans (List.Perm.swap _ _ _)).trans (List.Perm.cons _ (((List.Perm.cons _ ((List.Perm.cons _ ((List.Perm.cons _ (aC _)).trans (List.Perm.swap _ _ _))).trans (List.Perm.swap _ _ _))).trans (List.Perm.swap _ _ _)).trans (List.Perm.cons _ (aC _))))))) (YS [Ow A_2 c_2 36 3 ((za ++ [(⟨r1.1.Radar,r1.1.Time,(⟨A,c,r1.1.Plots⟩:Sl Zr)⟩:Zp)]).map Zp.c),.inr (Bag 40 6 Zr.c ((za ++ [(⟨r1.1.Radar,r1.1.Time,(⟨A,c,r1.1.Plots⟩:Sl Zr)⟩:Zp)]).map Zp.Plots)),Bk b2 #[.i r1.1.Radar,.i r1.1.Time,.slice A r1.1.Plots.length c] 36,Bk b1 #[.i r1.1.Radar,.i r1.1.Time,.slice A r1.1.Plots.length c] 36] (fun _ hM=>hM.perm (px [3,0,1,2])) (Zc 5 [] [(6,.slice A_2 ((out ++ [r1.1]).length) c_2)] {} (Zb rfl (TC.region (Zc 2 [] [(31,.string s_2),(32,.i r1.2.1)] {} (TL.v (sV (Instr.sliceAt 9 (.string s_2) (some (.i r1.2.1)) none none)) 33 (.string ((s_2).extract r1.2.1.toNat ((s_2).size))) (fun w hM=>XO r1.2.1.toNat ((s_2).size) Kr (.inr ⟨_,_,rfl,(by (try have kz_:=V7 hr1 h2);(try have ko_:=KF hr1 h3);first|omega|(simp only[ByteArray.size_extract,ZS];omega)|(simp only[Ya];omega)),rfl⟩) (.inl ⟨rfl,rfl⟩) (by (try have kz_:=V7 hr1 h2);(try have ko_:=KF hr1 h3);first|omega|(simp only[ByteArray.size_extract,ZS];omega)|(simp only[Ya];omega)) (by (try have kz_:=V7 hr1 h2);(try have ko_:=KF hr1 h3);first|omega|(simp only[ByteArray.size_extract,ZS];omega)|(simp only[Ya];omega))) {} (Zc 4 [] [(0,.string ((s_2).extract r1.2.1.toNat ((s_2).size)))] {} (Z2 rfl (Yr (Yr (Z7 (x:=(m+1,s_2,out,lost,A_out,qg,za)) (m,(s_2).extract r1.2.1.toNat ((s_2).size),(out ++ [r1.1]),lost,A_2,c_2,(za ++ [(⟨r1.1.Radar,r1.1.Time,(⟨A,c,r1.1.Plots⟩:Sl Zr)⟩:Zp)])) ⟨by omega,(by subst hr1;refine Eq.trans (Eq.symm ?_) hI;exact Zk h2 (rfl)),(by (try have kz_:=V7 hr1 h2);(try have ko_:=KF hr1 h3);exact sl),(O4 (s:=(⟨r1.1.Radar,r1.1.Time,(⟨A,c,r1.1.Plots⟩:Sl Zr)⟩:Zp)) (x:=r1.1) xn rfl),(by rw[ByteArray.size_extract];omega)⟩ (cT _) Kr (sb 3)))))))))))))
   ·have vr:=(Yh h2)
    refine Ze (Zc 2 [] [(34,.b (r1.2.2==8))] {} (Zb rfl (TC.cond (r1.2.2==8) rfl Kr (fun h3=>?_) (fun h3=>?_))))
    ·refine Ze (Zc 7 [] [(2,.slice A_out out.length qg),(3,.i lost),(4,.string s_2),(5,.i 0)] {} (Zb rfl (TC.ret (ZY (ZY (Zq (ZY (Zq ?_))))))))
     have e:Q7 s=(out,lost,s_2,0):=by subst hr1;unfold Q7;exact Zd h1 (Q4 ((congrArg (Option.getD · _) hR).trans (cU (hI.symm.trans (Zd h2 (Zk h3 (rfl)))))) rfl)
     rw[e]
     exact ZN (.inl rfl) ((A_out,qg),za) [] (.tuple #[.slice A_out out.length qg,.i lost,.string s_2,.i 0]) {} rfl (fun _ hM=>(hM.sub (sb 12)).fact xn)
    ·have wm:=(Yh h3)
     exact Ze (Zc 3 [] [(7,.i (w64 (lost+1)))] {} (Zb rfl (TC.region (Zc 1 [] [(23,.string s_2)] {} (TL.v (sV (Instr.sliceAt 9 (.string s_2) (some (.i 1)) none none)) 24 (.string ((s_2).extract 1 ((s_2).size))) (fun w hM=>XO 1 ((s_2).size) Kr (.inr ⟨_,_,rfl,(by (try have kz_:=V7 hr1 h2);(try have ko_:=KF hr1 h3);first|omega|(simp only[ByteArray.size_extract,ZS];omega)|(simp only[Ya];omega)),rfl⟩) (.inl ⟨rfl,rfl⟩) (by (try have kz_:=V7 hr1 h2);(try have ko_:=KF hr1 h3);first|omega|(simp only[ByteArray.size_extract,ZS];omega)|(simp only[Ya];omega)) (by (try have kz_:=V7 hr1 h2);(try have ko_:=KF hr1 h3);first|omega|(simp only[ByteArray.size_extract,ZS];omega)|(simp only[Ya];omega))) {} (Zc 3 [] [(0,.string ((s_2).extract 1 ((s_2).size)))] {} (Z2 rfl (Yr (Yr (Z7 (x:=(m+1,s_2,out,lost,A_out,qg,za)) (m,(s_2).extract 1 ((s_2).size),out,w64 (lost+1),A_out,qg,za) ⟨by omega,(by subst hr1;refine Eq.trans (Eq.symm ?_) hI;exact Zd h2 (Zd h3 (rfl))),(by (try have kz_:=V7 hr1 h2);(try have ko_:=KF hr1 h3);exact sl),xn,(by rw[ByteArray.size_extract];omega)⟩ (cT _) Kr (sb 12)))))))))))
  ·exact fun _ hf_=>hf_.elim
end Go.Sky
end
section
namespace Go.Sky
open Go Go.Eng
structure KG (f:Zw):Prop where
 x:-75000≤f.at_.X∧f.at_.X≤65000
 y:-35000≤f.at_.Y∧f.at_.Y≤35000
 vx:-100≤f.speed.X∧f.speed.X≤100
 vy:-200≤f.speed.Y∧f.speed.Y≤200
 h:5000≤f.height∧f.height≤11000
 c:100≤f.code∧f.code≤108
theorem D8 (l:List Int):∀ (m k:Nat) (out:List Zw),k+m≤3→(∀ f∈out,KG f)→(YE l m k out).length=out.length+m∧∀ f∈YE l m k out,KG f
 | 0,_,out,_,h=>⟨rfl,h⟩
 | m+1,k,out,hk,h=>by
  unfold YE
  dsimp only
  have e:((4*k:Nat):Int).tdiv 4=(k:Int):=by rw[dC (by omega)];omega
  rw[e]
  generalize hr1:Yv (l[4*k]?.getD 0) 0 5000=r1
  generalize hr2:Yv (l[(w64 (((4*k:Nat):Int)+1)).toNat]?.getD 0) (-20000) 20000=r2
  generalize hr3:Yv (l[(w64 (((4*k:Nat):Int)+2)).toNat]?.getD 0) (-100) 100=r3
  generalize hr4:Yv (l[(w64 (((4*k:Nat):Int)+3)).toNat]?.getD 0) (-200) 200=r4
  have b1:=GY hr1 (by decide) (by decide) (by decide)
  have b2:=GY hr2 (by decide) (by decide) (by decide)
  have b3:=GY hr3 (by decide) (by decide) (by decide)
  have b4:=GY hr4 (by decide) (by decide) (by decide)
  rw[Zu (x:=60000*w64 (k:Int)) (by rw[Zu (by omega)];omega),Zu (x:=3000*w64 (k:Int)) (by rw[Zu (by omega)];omega),Zu (x:=(k:Int)) (by omega),Zu (x:=-60000+60000*(k:Int)) (by omega),Zu (x:=-60000+60000*(k:Int)+r1) (by omega),Zu (x:=5000+3000*(k:Int)) (by omega),Zu (x:=100+((4*k:Nat):Int)) (by omega)]
  have:=D8 l m (k+1) (out ++ [(⟨⟨-60000+60000*(k:Int)+r1,r2⟩,⟨r3,r4⟩,5000+3000*(k:Int),100+((4*k:Nat):Int)⟩:Zw)]) (by omega) (fun f hf=>by
   rcases bD.1 hf with hf|hf
   ·exact h f hf
   ·rw[aV.1 hf]
    exact⟨by dsimp only;omega,by dsimp only;omega,b3,b4,by dsimp only;omega,by dsimp only;omega⟩)
  rw[aI,fI] at this
  exact⟨by rw[this.1];omega,this.2⟩
theorem RU (l:List Int):(Xl l).length≤3∧∀ f∈Xl l,KG f:=by
 have:=D8 l (min (l.length/4) 3) 0 [] (by omega) (fun _ h=>nomatch h)
 exact⟨by show (YE l (min (l.length/4) 3) 0 []).length≤3;rw[this.1];simp only[bJ];omega,this.2⟩
theorem G3 {a t A T:Int} (ha:-A≤a∧a≤A) (ht:0≤t∧t≤T):-(A*T)≤a*t∧a*t≤A*T:=by
 have hA:0≤A:=by omega
 have h1:a*t≤A*t:=cJ ha.2 ht.1
 have h2:-A*t≤a*t:=cJ ha.1 ht.1
 have h3:A*t≤A*T:=dM ht.2 hA
 rw[Int.neg_mul] at h2
 omega
theorem GF {f:Zw} (h:KG f) {t:Int} (ht:0≤t∧t≤200):YD f t=⟨f.at_.X+f.speed.X*t,f.at_.Y+f.speed.Y*t⟩∧(-95000≤f.at_.X+f.speed.X*t∧f.at_.X+f.speed.X*t≤85000)∧(-75000≤f.at_.Y+f.speed.Y*t∧f.at_.Y+f.speed.Y*t≤75000):=by
 have m1:=G3 h.vx ht
 have m2:=G3 h.vy ht
 have hx:=h.x;have hy:=h.y
 refine⟨?_,by omega,by omega⟩
 unfold YD
 rw[Zu (x:=f.speed.X*t) (by omega),Zu (x:=f.speed.Y*t) (by omega),Zu (by omega),Zu (by omega)]
def QD (f:Zw) (t:Int):Zm:=⟨t,YD f t,f.height,f.code,0⟩
end Go.Sky
end
section
namespace Go.Sky
open Go Go.Eng Go.Glue
structure Fls (fs:List Zw):Prop where
 fly:∀ f∈fs,KG f
 code:(fs.map fun f=>f.code).Nodup
 len:fs.length≤3
theorem Tc (l:List Int):∀ (m k:Nat) (out:List Zw),k+m≤3→(∀ f∈out,f.code<100+4*(k:Int))→(out.map fun f=>f.code).Nodup→((YE l m k out).map fun f=>f.code).Nodup
 | 0,_,out,_,_,h=>h
 | m+1,k,out,hk,h1,h2=>by
  unfold YE
  dsimp only
  refine Tc l m (k+1) _ (by omega) (fun f hf=>?_) ?_
  ·rcases bD.1 hf with hf|hf
   ·have:=h1 f hf;omega
   ·rw[aV.1 hf]
    show w64 (100+((4*k:Nat):Int))<_
    rw[Zu (by omega)];omega
  ·rw[dD,List.map_singleton]
   refine cY.2 ⟨h2,List.pairwise_singleton _ _,fun a ha b hb=>?_⟩
   rw[aV.1 hb]
   obtain⟨f,hf,rfl⟩:=bT.1 ha
   have:=h1 f hf
   show f.code≠w64 (100+((4*k:Nat):Int))
   rw[Zu (by omega)];omega
theorem O5 (l:List Int):Fls (Xl l):=by
 have h:=RU l
 exact⟨h.2,Tc l (min (l.length/4) 3) 0 [] (by omega) (fun _ h=>nomatch h) .nil,h.1⟩
end Go.Sky
end
section
namespace Go.Eng
open Go.RowKit (Below)
def lb (s:ByteArray):List Int:=s.data.toList.map fun b=>(b.toNat:Int)
theorem HL (s:ByteArray):(lb s).length=s.size:=by unfold lb;rw[aF,aX];rfl
def Zas (A:Option Addr) (cap sz:Nat) (rows:List (Array Value)) (w:World):Prop :=
 ∃ (b:Nat) (cur:Array Value) (e:TypeId) (fz:Nat×Nat) (rest:List Value),A=some ⟨b,0,none⟩∧w.heap[b]?=some (.cells cur e fz)∧rows.length≤cap∧rows.length<4611686018427387904∧(∀ r∈rows,r.size=sz)∧cur.toList=flat rows++rest
def Rdo (A:Option Addr) (cap sz:Nat) (rows:List (Array Value)):Res where
 foot b:=∃ a,A=some a∧a.block=b
 holds:=Zas A cap sz rows
 lt w h b hb:=by
  obtain⟨g,cur,e,fz,rest,h1,h2,_⟩:=h
  obtain⟨a,ha,rfl⟩:=hb
  rw[h1] at ha;simp only[aD] at ha;subst ha;exact Us h2
 kept w w' h hk:=by
  obtain⟨g,cur,e,fz,rest,h1,h2,h3⟩:=h
  exact⟨g,cur,e,fz,rest,h1,(hk g ⟨_,h1,rfl⟩).trans h2,h3⟩
theorem Sat.rdo_at {w0:Ctx} {w:World} {M:Mem} {A:Option Addr} {cap sz:Nat} {rows:List (Array Value)} (h:Sat w0 M w) (j:Nat) (hj:M[j]?=some (.inr (Rdo A cap sz rows))):Rd w sz A rows:=by
 obtain⟨b,cur,e,fz,rest,rfl,hb,hle,hl,hs,hc⟩:=h.res hj
 refine⟨hl,fun i r hi=>⟨hs r (aH hi),_,rfl,Us hb,fun k v hv=>?_⟩⟩
 rw[JS,cell_of_row w b _ cur e fz hb]
 have h2:(Go.Eng.flat rows)[i*sz+k]?=some v:=UU rows hs i r hi k v hv
 rw[← aZ,hc,cA (by obtain⟨h,_⟩:=aK.1 h2;exact h)]
 exact h2
theorem Sat.rdo_le {w0:Ctx} {w:World} {M:Mem} {A:Option Addr} {cap sz:Nat} {rows:List (Array Value)} (h:Sat w0 M w) (j:Nat) (hj:M[j]?=some (.inr (Rdo A cap sz rows))):rows.length≤cap:=by
 obtain⟨b,cur,e,fz,rest,rfl,hb,hle,_⟩:=h.res hj
 exact hle
theorem Sat.rdo_len {α:Type} {c:α→Array Value} {l:List α} {w0:Ctx} {w:World} {M:Mem} {A:Option Addr} {cap sz:Nat} (h:Sat w0 M w) (j:Nat) (hj:M[j]?=some (.inr (Rdo A cap sz (l.map c)))):l.length≤cap:=by
 have:=h.rdo_le j hj
 rwa [aF] at this
theorem Ss (l:List Int):Go.Eng.flat (l.map ic8)=l.map fun x=>Value.int .u8 x:=by
 induction l with
 | nil=>rfl
 | cons x l ih=>rw[dR,JR,ih];rfl
theorem bytes_at {P:Program} {w0:Ctx} {M:Mem} {src dst e:TypeId} (s:ByteArray) (hs:P.underlying src=some .string) (hd:P.underlying dst=some (.slice e)) (he:P.underlying e=some (.int .u8))
  (hn:s.size<4611686018427387904) (w:World) (hM:Sat w0 M w) :
  ∃ (g:Option Addr×Nat) (w':World),(sV (convert src dst (.string s))).run P w=.ok (.value (.slice g.1 (lb s).length g.2)) w'∧Sat w0 (.inr (Rdo g.1 g.2 1 ((lb s).map ic8))::M) w':=by
 refine⟨(some ⟨w.heap.size,0,none⟩,grownCap w s.size 0 e),_,by rw[HL];exact Uw (run_bytes_of_string w src dst e s hs hd he),?_⟩
 refine hM.push (((Below.refl _ w).drew).alloc (aR _) _) _ ?_ (fun b' hb'=>?_)
 ·refine⟨_,_,e,_,List.replicate (grownCap w s.size 0 e-s.size) (.int .u8 0),rfl,heap_alloc_new w.drew _,?_,?_,?_,?_⟩
  ·rw[aF,HL];exact grownCap_ge w s.size 0 e
  ·rw[aF,HL];exact hn
  ·intro r hr
   obtain⟨x,_,rfl⟩:=bT.1 hr
   rfl
  ·rw[Ss]
   unfold bytesRow lb
   rw[Array.toList_append,Array.toList_map,Array.toList_replicate,List.map_map]
   rfl
 ·obtain⟨ad,h2,rfl⟩:=hb'
  simp only[aD] at h2
  subst h2
  exact aR _
end Go.Eng
end
section
namespace Go.Sky
open Go Go.Eng Go.Proofs
def Xa (v:Int):List Int→Nat→((Unit) ⊕ (Int))
 | [],_=>.inl ()
 | x::xs,k=>cond (v==x) (
   .inr (k:Int)) (
   Xa v xs (k+1))
def XW (s:List Int) (v:Int):Int :=
 Sum.elim (fun _ =>
  (-1)) (fun r=>r) (Xa v s 0)
theorem UE (A_s:Option Addr) (c_s:Nat) (s:List Int) (v:Int) (w:World) (h_s:Rd w 1 A_s (s.map ic8)) (_hc_s:s.length≤c_s):Calls Tryz.prog 20 #[.slice A_s s.length c_s,.int .u8 v] w (Ret w (.int .i64 (XW s v))):=by
 have s_s:=h_s.short;rw[aF] at s_s
 refine Zo (vs:=[.slice A_s s.length c_s,.int .u8 v]) (w:=w) Tryz.func20 rfl Tryz.ntmps20 rfl (Ze (Zc 1 [] [(4,.i 0)] {} (Zz (Ze (Zc 3 [] [(7,.i (s.length:Int)),(8,.i 0)] {} (Zb rfl ?_))))))
 obtain⟨R1,hR⟩:∃ R,R=Xa v s 0:=⟨_,rfl⟩
 refine TC.cut (S:=Unit) (fun (_:Unit)=>[]) (fun (_:Unit)=>[]) (fun (_:Unit)=>R1=.inl ()) ?_ ?_
 ·refine TC.block (XB (X:=Nat) (fun k=>[(0,.slice A_s s.length c_s),(1,.int .u8 v),(7,.i (s.length:Int)),(8,.i (k:Int))]) (fun k=>[]) (fun k=>s.length-k) (fun k=>k≤s.length∧R1=Xa v (s.drop k) k) ?_ 0 ⟨aN _,hR⟩ Kr (sb 0))
  rintro k ⟨hk,hI⟩
  refine Ze (Zc 1 [] [(9,.b (decide ((k:Int)<(s.length:Int))))] {} (Zz (TC.cond (decide ((k:Int)<(s.length:Int))) rfl Kr (fun h1=>?_) (fun h1=>?_))))
  ·have hlt:=ltN h1
   obtain⟨x,hx⟩:=elN hlt
   have hd:=drop_at hx
   refine Yg (TC.seq (TC.block (Ze (Zc 2 [] [(5,.i (k:Int))] {} (Zv (Zc 3 [] [(11,.int .u8 v),(12,.slice A_s s.length c_s),(13,.i (k:Int))] {} (TL.v (sV (Instr.indexAt 27 (.slice A_s s.length c_s) (.i (k:Int)))) 14 (.pointer (some (Ix A_s (k*1)))) (fun w hM=>Zy (h_s.sat hM) (by simp) Kr sd sd) {} (TL.v (sV (Instr.loadAt 5 (.pointer (some (Ix A_s (k*1)))))) 15 (.int .u8 x) (fun w hM=>Z3 (off:=0) (i:=k) (.int .u8 x) (h_s.sat hM) (ZR hx) Kr Kr) {} (Zc 6 [] [(16,.b (v==x))] {} (Zb rfl (TC.cond (v==x) rfl Kr (fun h2=>?_) (fun h2=>?_))))))))))))
   ·refine Ze (Zc 2 [] [(4,.i (k:Int))] {} (Zb rfl (TC.ret (ZY (Zq (Zq (ZY (Zq (Zq ?_)))))))))
    exact TE.ret [] (.i (k:Int)) {} (by unfold XW;refine eS (fun z=>(.i z:Value)) ?_;exact Q4 (hR.symm.trans (hI.trans (by rw[hd];exact Zk h2 (rfl)))) rfl)
   ·have vr:=(Yh h2)
    exact TC.skip (Yr (Z4 (TC.region (Zc 2 [] [(8,.i (w64 ((k:Int)+1)))] {} (Z2 rfl (TE.rw 8 (.i (w64 ((k:Int)+1))) (.i ((k+1:Nat):Int)) Kr (ZT k (by omega)) (Z7 (x:=k) (k+1) ⟨by omega,hI.trans (by rw[hd];exact Zd h2 (rfl))⟩ (mN hlt) Kr (sb 0))))))))
  ·have hd:=QE h1
   refine TC.exit (Yc (Yc (Z1 ?_)))
   exact TE.cut () (hI.trans (by rw[hd];exact rfl)) Kr (sb 0)
 ·intro _ hJ
  exact YZ (Zc 1 [] [(4,.i (-1))] {} (Zb rfl (TC.ret (TE.ret [] (.i (-1)) {} (by unfold XW;refine eS (fun z=>(.i z:Value)) ?_;exact Q2 (hR.symm.trans hJ) (rfl))))))
def YH (s:List Int) (v:Int):Bool :=
 let r1:=XW s v
 decide (r1≥0)
theorem VO (A_s:Option Addr) (c_s:Nat) (s:List Int) (v:Int) (w:World) (h_s:Rd w 1 A_s (s.map ic8)) (py:s.length≤c_s):Calls Tryz.prog 6 #[.slice A_s s.length c_s,.int .u8 v] w (Ret w (.bool (YH s v))):=by
 have s_s:=h_s.short;rw[aF] at s_s
 exact Zo (vs:=[.slice A_s s.length c_s,.int .u8 v]) (w:=w) Tryz.func6 rfl Tryz.ntmps6 rfl (Ze (Zc 1 [] [(4,.b false)] {} (Zv (Zc 2 [] [(5,.slice A_s s.length c_s),(6,.int .u8 v)] {} (TL.c 7 (XW s v) (fun r1=>.i r1) (fun w hM=>UE A_s c_s s v w (h_s.sat hM) py) {} (fun r1 hr1=>Zc 5 [] [(4,.b (decide (r1≥0)))] {} (Zb rfl (TC.ret (TE.ret [] (.b (decide (r1≥0))) {} (by unfold YH;refine eS (fun z=>(.b z:Value)) ?_;subst hr1;exact rfl))))))))))
def Y9 (s2:List Zm):List Zm→Nat→((Unit) ⊕ (Bool))
 | [],_=>.inl ()
 | x::xs,k=>cond (!(Zm.eqb x (s2[k]?.getD Zm.zero))) (
   .inr false) (
   Y9 s2 xs (k+1))
def Y1 (s1:List Zm) (s2:List Zm):Bool :=
 cond ((s1.length:Int) != (s2.length:Int)) (
  false) (
  Sum.elim (fun _ =>
   true) (fun r=>r) (Y9 s2 s1 0))
theorem Vk (A_s1:Option Addr) (gx:Nat) (s1:List Zm) (A_s2:Option Addr) (gy:Nat) (s2:List Zm) (w:World) (rz:Rd w 6 A_s1 (s1.map Zm.c)) (_hc_s1:s1.length≤gx) (ta:Rd w 6 A_s2 (s2.map Zm.c)) (_hc_s2:s2.length≤gy):Calls Tryz.prog 15 #[.slice A_s1 s1.length gx,.slice A_s2 s2.length gy] w (Ret w (.bool (Y1 s1 s2))):=by
 have w8:=rz.short;rw[aF] at w8
 have p8:=ta.short;rw[aF] at p8
 refine Zo (vs:=[.slice A_s1 s1.length gx,.slice A_s2 s2.length gy]) (w:=w) Tryz.func15 rfl Tryz.ntmps15 rfl (Ze (Zc 1 [] [(4,.b false)] {} (Zz (Ze (Zc 5 [] [(10,.b ((s1.length:Int) != (s2.length:Int)))] {} (Zb rfl (TC.cond ((s1.length:Int) != (s2.length:Int)) rfl Kr (fun h1=>?_) (fun h1=>?_))))))))
 ·exact Ze (Zc 1 [] [(4,.b false)] {} (Zb rfl (TC.ret (Zq (TE.ret [] (.b false) {} (by unfold Y1;refine eS (fun z=>(.b z:Value)) ?_;exact Zk h1 (rfl)))))))
 ·have j4:=(Jb h1)
  refine Yg (TC.seq (Ze (Zc 3 [] [(12,.i (s1.length:Int)),(13,.i 0)] {} (Zb rfl ?_))))
  obtain⟨R1,hR⟩:∃ R,R=Y9 s2 s1 0:=⟨_,rfl⟩
  refine TC.cut (S:=Unit) (fun (_:Unit)=>[]) (fun (_:Unit)=>[]) (fun (_:Unit)=>R1=.inl ()) ?_ ?_
  ·refine TC.block (XB (X:=Nat) (fun k=>[(0,.slice A_s1 s1.length gx),(1,.slice A_s2 s2.length gy),(12,.i (s1.length:Int)),(13,.i (k:Int))]) (fun k=>[]) (fun k=>s1.length-k) (fun k=>k≤s1.length∧R1=Y9 s2 (s1.drop k) k) ?_ 0 ⟨aN _,hR⟩ Kr (sb 0))
   rintro k ⟨hk,hI⟩
   refine Ze (Zc 1 [] [(14,.b (decide ((k:Int)<(s1.length:Int))))] {} (Zz (TC.cond (decide ((k:Int)<(s1.length:Int))) rfl Kr (fun h2=>?_) (fun h2=>?_))))
   ·have hlt:=ltN h2
    obtain⟨x,hx⟩:=elN hlt
    have hd:=drop_at hx
    refine Yg (TC.seq (TC.block (Ze (Zc 2 [] [(5,.i (k:Int))] {} (Zz (UA 9 Kr Kr Kr (JA 2 [] [(16,.slice A_s1 s1.length gx),(17,.i (k:Int))] {} (TQ.v (sV (Instr.indexAt 52 (.slice A_s1 s1.length gx) (.i (k:Int)))) 18 (.pointer (some (Ix A_s1 (k*6)))) (fun w hM=>Zy (rz.sat hM) (by simp) Kr sd sd) rfl {} (TQ.v (sV (Instr.loadAt 46 (.pointer (some (Ix A_s1 (k*6)))))) 19 (Zm.v x) (fun w hM=>Yd (n:=6) (off:=0) (i:=k) (Zm.v x) (rz.sat hM) (ZR hx) Kr Kr Kr) rfl {} (JA 6 [] [(20,.slice A_s2 s2.length gy),(21,.i (k:Int))] {} (TQ.v (sV (Instr.indexAt 52 (.slice A_s2 s2.length gy) (.i (k:Int)))) 22 (.pointer (some (Ix A_s2 (k*6)))) (fun w hM=>Zy (ta.sat hM) (by simp) Kr sd sd) rfl {} (TQ.v (sV (Instr.loadAt 46 (.pointer (some (Ix A_s2 (k*6)))))) 23 (Zm.v (s2[k]?.getD Zm.zero)) (fun w hM=>Yd (n:=6) (off:=0) (i:=k) (Zm.v (s2[k]?.getD Zm.zero)) (ta.sat hM) (ZR (getD_at _ _ Zm.zero sd)) Kr Kr Kr) rfl {} (TQ.v (sV (do eqGuard .neq 46 (.tmp 19) (.tmp 23) (Zm.v x) (Zm.v (s2[k]?.getD Zm.zero));binOp .neq 46 (Zm.v x) (Zm.v (s2[k]?.getD Zm.zero)))) 24 (.b (!(Zm.eqb x (s2[k]?.getD Zm.zero)))) (fun w hM=>C9 (b:=Zm.eqb x (s2[k]?.getD Zm.zero)) Kr Kr w) rfl {} (VT rfl (TC.cond (!(Zm.eqb x (s2[k]?.getD Zm.zero))) rfl Kr (fun h3=>?_) (fun h3=>?_))))))))))))))))
    ·refine Ze (Zc 1 [] [(4,.b false)] {} (Zb rfl (TC.ret (ZY (Zq (Zq (ZY (Zq (Zq ?_)))))))))
     exact TE.ret [] (.b false) {} (by unfold Y1;refine eS (fun z=>(.b z:Value)) ?_;exact Zd h1 (Q4 (hR.symm.trans (hI.trans (by rw[hd];exact Zk h3 (rfl)))) rfl))
    ·exact TC.skip (Yr (Z4 (TC.region (Zc 2 [] [(13,.i (w64 ((k:Int)+1)))] {} (Z2 rfl (TE.rw 13 (.i (w64 ((k:Int)+1))) (.i ((k+1:Nat):Int)) Kr (ZT k (by omega)) (Z7 (x:=k) (k+1) ⟨by omega,hI.trans (by rw[hd];exact Zd h3 (rfl))⟩ (mN hlt) Kr (sb 0))))))))
   ·have hd:=QE h2
    refine TC.exit (Yc (Yc (Z1 ?_)))
    exact TE.cut () (hI.trans (by rw[hd];exact rfl)) Kr (sb 0)
  ·intro _ hJ
   exact YZ (Zc 1 [] [(4,.b true)] {} (Zb rfl (TC.ret (TE.ret [] (.b true) {} (by unfold Y1;refine eS (fun z=>(.b z:Value)) ?_;exact Zd h1 (Q2 (hR.symm.trans hJ) (rfl)))))))
def Yi (n:Int):List Zr :=
 cond (decide (n<0)) (
  []) (
  cond (decide ((w64 (n-(w64 (0-0))))>0)) (
   ([]:List Zr)) (
   []))
theorem Vn (n:Int) (w:World) (hn:0≤n∧n≤1000000):Calls Tryz.prog 35 #[.slice none 0 0,.int .i64 n] w (JD (Γ:=(Option Addr×Nat)) (cx w) (fun g=>.slice g.1 ((Yi n).length) g.2) (fun g=>[.inr (Own g.1 g.2 40 6 ((Yi n).map Zr.c))])):=by
 refine Zo (vs:=[.slice none 0 0,.i n]) (w:=w) Tryz.func35 rfl Tryz.ntmps35 rfl (Ze (Zc 1 [] [(4,.slice none 0 0)] {} (Zz (Ze (Zc 2 [] [(6,.b (decide (n<0)))] {} (Zb rfl (TC.cond (decide (n<0)) rfl Kr (fun h1=>?_) (fun h1=>?_))))))))
 ·exact((by have:=Ys h1;omega):False).elim
 ·have j4:=(Zt h1)
  refine Yg (TC.seq (Ze (Zc 8 [] [(1,.i (w64 (n-(w64 (0-0)))))] {} (Zv (Zc 2 [] [(16,.b (decide ((w64 (n-(w64 (0-0))))>0)))] {} (Zb rfl (TC.cond (decide ((w64 (n-(w64 (0-0))))>0)) rfl Kr (fun h2=>?_) (fun h2=>?_))))))))
  ·have vr:=(Ys h2)
   refine TC.region (Zc 3 [] [(17,.slice none 0 0),(19,.i 0)] {} (TL.v (sV (Instr.sliceAt 28 (.slice none 0 0) none (some (.i 0)) none)) 20 (.slice none 0 0) (fun w hM=>(VU (sz:=6) 0 0 Kr (.inl ⟨rfl,rfl⟩) (.inr ⟨_,_,rfl,(by decide),rfl⟩) (aR _) (aN _)).trans (by rfl)) {} (Zc 5 [] [(21,.i (w64 (n-(w64 (0-0)))))] {} (TL.rw 21 (.i (w64 (n-(w64 (0-0))))) (.i (((w64 (n-(w64 (0-0)))).toNat:Nat):Int)) Kr (int_eq (bN sd).symm) (GK (Γ:=AN) (sV (Builtin.append_ #[28,3] 28 #[.slice none 0 0,.i (((w64 (n-(w64 (0-0)))).toNat:Nat):Int)])) (some 22) (fun g=>.slice g.1 ((w64 (n-(w64 (0-0)))).toNat) g.2) (fun g=>[Ow g.1 g.2 40 6 (([]:List Zr).map Zr.c)]) (fun g=>[(0,.slice none 0 0),(22,.slice g.1 ((w64 (n-(w64 (0-0)))).toNat) g.2)]) (RF (c:=Zr.c) (bytes:=48) 28 ((w64 (n-(w64 (0-0)))).toNat) Kr rfl Kr sd sd) Kr (fun g=>Kr) ?_)))))
   rintro⟨A,c⟩
   refine Zc 8 [] [(24,.i 0)] {} (TL.v (sV (Instr.sliceAt 28 (.slice A ((w64 (n-(w64 (0-0)))).toNat) c) none (some (.i 0)) none)) 25 (.slice A 0 c) (fun w hM=>(VU (sz:=6) 0 0 Kr (.inl ⟨rfl,rfl⟩) (.inr ⟨_,_,rfl,(by decide),rfl⟩) (aR _) (aN _)).trans (by rw[AQ];rfl)) {} (Zc 10 [] [(0,.slice A 0 c)] {} (Zv (Zc 2 [] [(4,.slice A 0 c)] {} (Zb rfl (TC.ret ?_))))))
   have e:Yi n=([]:List Zr):=by unfold Yi;exact Zd h1 (Zk h2 (rfl))
   rw[e]
   exact ZN (.inl rfl) (A,c) [] (.slice A 0 c) {} rfl (fun _ hM=>hM.sub (sb 1))
  ·refine ZI (Zc 2 [] [(4,.slice none 0 0)] {} (Zb rfl (TC.ret ?_)))
   have e:Yi n=([]):=by unfold Yi;exact Zd h1 (Zd h2 (rfl))
   refine Yp [Ow none 0 40 6 (([]:List Zr).map Zr.c)] (fun _ hM=>hM.emptyrow none 40 6) ?_
   rw[e]
   exact ZN (.inl rfl) (none,0) [] (.slice none 0 0) {} rfl (fun _ hM=>hM.sub (sb 1))
def YU:List (List Zr)→Nat→Int→Int
 | [],_,size=>size
 | x::xs,k,size=>cond (decide ((w64 (size+(x.length:Int)))<0)) (
   default) (
   YU xs (k+1) (w64 (size+(x.length:Int))))
def X7:List (List Zr)→Nat→(List Zr)→(List Zr)
 | [],_,zm=>zm
 | x_2::xs,k_2,zm=>X7 xs (k_2+1) (zm++x_2)
def Yx (zd:List (List Zr)):List Zr :=
 Xq (YU zd 0 0) (fun vd =>
  let r1:=Yi vd
  Xq (X7 zd 0 r1) (fun z6 =>
   z6))
theorem J1 {n:Int} {r:List Zr} (h:Yi n=r):r.length=0:=by
 subst h
 unfold Yi
 cases decide (n<0) <;> cases decide (w64 (n-(w64 (0-0)))>0) <;> rfl
set_option maxHeartbeats 4000000 in
theorem KY (A_slices:Option Addr) (jf:Nat) (zd:List (List Zr)) (zj:List (Sl Zr)) (w:World) (k7:Rd w 1 A_slices (zj.map Sl.c)) (_hc_slices:zd.length≤jf) (yg:∀ s∈zj,s.rd w 6 Zr.c) (jc:zd=zj.map Sl.l) (hp:zd.length≤2∧∀ s∈zd,s.length≤100000):Calls Tryz.prog 13 #[.slice A_slices zd.length jf] w (JD (Γ:=(Option Addr×Nat)) (cx w) (fun g=>.slice g.1 ((Yx zd).length) g.2) (fun g=>[.inr (Own g.1 g.2 40 6 ((Yx zd).map Zr.c))])):=by
 have db:=k7.short;rw[← KO jc] at db
 refine Zo (vs:=[.slice A_slices zd.length jf]) (w:=w) Tryz.func13 rfl Tryz.ntmps13 rfl (Ze (Zc 1 [] [(2,.slice none 0 0)] {} (Zv (Zc 1 [] [(3,.i 0)] {} (Zz (Ze (Zc 3 [] [(9,.slice A_slices zd.length jf),(10,.i (zd.length:Int)),(11,.i 0)] {} (Zb rfl ?_))))))))
 obtain⟨R1,hR⟩:∃ R,R=YU zd 0 0:=⟨_,rfl⟩
 refine TC.cut (S:=Int) (fun vd=>[(0,.slice A_slices zd.length jf),(3,.i vd)]) (fun vd=>[]) (fun vd=>R1=vd∧(0≤vd∧vd≤200000)) ?_ ?_
 ·refine TC.block (XB (X:=Nat×Int) (fun (k,size)=>[(0,.slice A_slices zd.length jf),(3,.i size),(9,.slice A_slices zd.length jf),(10,.i (zd.length:Int)),(11,.i (k:Int))]) (fun (k,size)=>[]) (fun (k,size)=>zd.length-k) (fun (k,size)=>k≤zd.length∧R1=YU (zd.drop k) k size∧(0≤size∧size≤100000*(k:Int))) ?_ (0,0) ⟨aN _,hR,(by have kp_:=hp.1;(try have kg_:=J1 hr1);(try have kx_:=hp.2 _ (aH hx));(try have kx_:=hp.2 _ (aH xw));exact sz)⟩ Kr (sb 0))
  rintro⟨k,size⟩ ⟨hk,hI,s9⟩
  refine Ze (Zc 1 [] [(12,.b (decide ((k:Int)<(zd.length:Int))))] {} (Zz (TC.cond (decide ((k:Int)<(zd.length:Int))) rfl Kr (fun h1=>?_) (fun h1=>?_))))
  ·have hlt:=ltN h1
   obtain⟨x,hx⟩:=elN hlt
   have hd:=drop_at hx
   refine Yg (TC.seq (TC.block (Ze (TL.v (sV (Instr.indexAt 92 (.slice A_slices zd.length jf) (.i (k:Int)))) 13 (.pointer (some (Ix A_slices (k*1)))) (fun w hM=>Zy (k7.sat hM) (KO jc) Kr (by have kp_:=hp.1;(try have kg_:=J1 hr1);(try have kx_:=hp.2 _ (aH hx));(try have kx_:=hp.2 _ (aH xw));exact sd) (by have kp_:=hp.1;(try have kg_:=J1 hr1);(try have kx_:=hp.2 _ (aH hx));(try have kx_:=hp.2 _ (aH xw));exact sd)) {} ?_))))
   have w8:=(KT (Ko yg k) (UJ jc hx)).short;rw[aF] at w8
   refine TL.v (sV (Instr.loadAt 28 (.pointer (some (Ix A_slices (k*1)))))) 14 (.slice ((zj[k]?.getD Sl.zero).A) x.length ((zj[k]?.getD Sl.zero).cap)) (fun w hM=>(by have h:=Z3 (P:=Tryz.prog) (T:=28) (off:=0) (i:=k) (.slice (zj[k]?.getD Sl.zero).A (zj[k]?.getD Sl.zero).l.length (zj[k]?.getD Sl.zero).cap) (k7.sat hM) (ZR (getD_at _ _ Sl.zero (WP jc (aK.1 hx).1))) Kr Kr;rw[(UJ jc hx)] at h;exact h)) {} ?_
   refine Zc 3 [] [(5,.slice ((zj[k]?.getD Sl.zero).A) x.length ((zj[k]?.getD Sl.zero).cap))] {} (Zv (Zc 5 [] [(3,.i (w64 (size+(x.length:Int))))] {} (Zv (Zc 2 [] [(20,.b (decide ((w64 (size+(x.length:Int)))<0)))] {} (Zb rfl (TC.cond (decide ((w64 (size+(x.length:Int)))<0)) rfl Kr (fun h2=>?_) (fun h2=>?_)))))))
   ·exact((by have kx_:=hp.2 _ (aH hx);have h_:=Ys h2;have:=hp.1;rw[Zu (by omega)] at h_;omega):False).elim
   ·have vr:=(Zt h2)
    exact TC.skip (Yr (Z4 (TC.region (Zc 2 [] [(11,.i (w64 ((k:Int)+1)))] {} (Z2 rfl (TE.rw 11 (.i (w64 ((k:Int)+1))) (.i ((k+1:Nat):Int)) Kr (ZT k (by have kp_:=hp.1;(try have kg_:=J1 hr1);(try have kx_:=hp.2 _ (aH hx));(try have kx_:=hp.2 _ (aH xw));omega)) (Z7 (x:=(k,size)) (k+1,w64 (size+(x.length:Int))) ⟨by omega,hI.trans (by rw[hd];exact Zd h2 (rfl)),(by have kp_:=hp.1;(try have kg_:=J1 hr1);(try have kx_:=hp.2 _ (aH hx));(try have kx_:=hp.2 _ (aH xw));exact sl)⟩ (mN hlt) Kr (sb 0))))))))
  ·have hd:=QE h1
   refine TC.exit (Yc (Yc (Z1 ?_)))
   exact TE.cut size (⟨hI.trans (by rw[hd];exact rfl),(by have kp_:=hp.1;(try have kg_:=J1 hr1);(try have kx_:=hp.2 _ (aH hx));(try have kx_:=hp.2 _ (aH xw));exact sl)⟩) Kr (sb 0)
 ·rintro vd ⟨hJ,ky⟩
  refine YZ (Zc 1 [] [(23,.i vd)] {} (UR (Γ:=AN) 24 (Yi vd) (fun r1 g=>.slice g.1 r1.length g.2) (fun r1 g=>[Ow g.1 g.2 40 6 (r1.map Zr.c)]) (fun w _=>Vn vd w (by have kp_:=hp.1;(try have kg_:=J1 hr1);(try have kx_:=hp.2 _ (aH hx));(try have kx_:=hp.2 _ (aH xw));exact sg)) {} (fun r1 hr1=>?_)))
  rintro⟨A,c⟩
  refine Y2 (fun w hM=>hM.short_at 0 rfl) (fun p7=>Zc 3 [] [(6,.slice A r1.length c)] {} (Zz (Ze (Zc 3 [] [(25,.slice A_slices zd.length jf),(26,.i (zd.length:Int)),(27,.i 0)] {} (Zb rfl ?_)))))
  obtain⟨R2,x9⟩:∃ R,R=X7 zd 0 r1:=⟨_,rfl⟩
  refine TC.cut (S:=(List Zr)×(Option Addr)×Nat) (fun (z6,A_newslice_2,xq)=>[(6,.slice A_newslice_2 z6.length xq)]) (fun (z6,A_newslice_2,xq)=>[Ow A_newslice_2 xq 40 6 (z6.map Zr.c)]) (fun (z6,A_newslice_2,xq)=>R2=z6∧z6.length≤r1.length+100000*zd.length) ?_ ?_
  ·refine TC.block (XB (X:=Nat×(List Zr)×(Option Addr)×Nat) (fun (k_2,zm,A_newslice,xu)=>[(6,.slice A_newslice zm.length xu),(25,.slice A_slices zd.length jf),(26,.i (zd.length:Int)),(27,.i (k_2:Int))]) (fun (k_2,zm,A_newslice,xu)=>[Ow A_newslice xu 40 6 (zm.map Zr.c)]) (fun (k_2,zm,A_newslice,xu)=>zd.length-k_2) (fun (k_2,zm,A_newslice,xu)=>k_2≤zd.length∧R2=X7 (zd.drop k_2) k_2 zm∧zm.length≤r1.length+100000*k_2) ?_ (0,r1,A,c) ⟨aN _,x9,sz⟩ Kr (sb 1))
   rintro⟨k_2,zm,A_newslice,xu⟩ ⟨y9,xg,ss⟩
   refine Ze (Zc 1 [] [(28,.b (decide ((k_2:Int)<(zd.length:Int))))] {} (Zz (TC.cond (decide ((k_2:Int)<(zd.length:Int))) rfl Kr (fun h3=>?_) (fun h3=>?_))))
   ·have zp:=ltN h3
    obtain⟨x_2,xw⟩:=elN zp
    have zr:=drop_at xw
    refine Yg (TC.seq (TC.block (Ze (TL.v (sV (Instr.indexAt 92 (.slice A_slices zd.length jf) (.i (k_2:Int)))) 29 (.pointer (some (Ix A_slices (k_2*1)))) (fun w hM=>Zy (k7.sat hM) (KO jc) Kr (by have kp_:=hp.1;(try have kg_:=J1 hr1);(try have kx_:=hp.2 _ (aH hx));(try have kx_:=hp.2 _ (aH xw));exact sd) (by have kp_:=hp.1;(try have kg_:=J1 hr1);(try have kx_:=hp.2 _ (aH hx));(try have kx_:=hp.2 _ (aH xw));exact sd)) {} ?_))))
    have p8:=(KT (Ko yg k_2) (UJ jc xw)).short;rw[aF] at p8
    refine TL.v (sV (Instr.loadAt 28 (.pointer (some (Ix A_slices (k_2*1)))))) 30 (.slice ((zj[k_2]?.getD Sl.zero).A) x_2.length ((zj[k_2]?.getD Sl.zero).cap)) (fun w hM=>(by have h:=Z3 (P:=Tryz.prog) (T:=28) (off:=0) (i:=k_2) (.slice (zj[k_2]?.getD Sl.zero).A (zj[k_2]?.getD Sl.zero).l.length (zj[k_2]?.getD Sl.zero).cap) (k7.sat hM) (ZR (getD_at _ _ Sl.zero (WP jc (aK.1 xw).1))) Kr Kr;rw[(UJ jc xw)] at h;exact h)) {} ?_
    refine Zc 3 [] [(8,.slice ((zj[k_2]?.getD Sl.zero).A) x_2.length ((zj[k_2]?.getD Sl.zero).cap))] {} (Zb rfl (TC.region (Zc 2 [] [(31,.slice A_newslice zm.length xu),(32,.slice ((zj[k_2]?.getD Sl.zero).A) x_2.length ((zj[k_2]?.getD Sl.zero).cap))] {} (TL.os (Γ:=AN) (sV (Builtin.append_ #[28,28] 28 #[.slice A_newslice zm.length xu,.slice ((zj[k_2]?.getD Sl.zero).A) x_2.length ((zj[k_2]?.getD Sl.zero).cap)])) 33 (fun g=>.slice g.1 (zm++x_2).length g.2) 0 (fun g=>Ow g.1 g.2 40 6 ((zm++x_2).map Zr.c)) (Jc (bytes:=48) 28 0 x_2 Kr rfl rfl Zr.one rfl (fun w hM=>(KT ((Ko yg k_2).sat hM) (UJ jc xw))) rfl (by have kp_:=hp.1;(try have kg_:=J1 hr1);(try have kx_:=hp.2 _ (aH hx));(try have kx_:=hp.2 _ (aH xw));exact sa)) {} ?_))))
    rintro⟨A_2,c_2⟩
    exact Zc 4 [] [(6,.slice A_2 ((zm++x_2).length) c_2)] {} (Z2 rfl (Yr (Z4 (TC.region (Zc 2 [] [(27,.i (w64 ((k_2:Int)+1)))] {} (Z2 rfl (TE.rw 27 (.i (w64 ((k_2:Int)+1))) (.i ((k_2+1:Nat):Int)) Kr (ZT k_2 (by have kp_:=hp.1;(try have kg_:=J1 hr1);(try have kx_:=hp.2 _ (aH hx));(try have kx_:=hp.2 _ (aH xw));omega)) (Z7 (x:=(k_2,zm,A_newslice,xu)) (k_2+1,(zm++x_2),A_2,c_2) ⟨by omega,xg.trans (by subst hr1;rw[zr];exact rfl),(by have kp_:=hp.1;(try have kg_:=J1 hr1);(try have kx_:=hp.2 _ (aH hx));(try have kx_:=hp.2 _ (aH xw));exact sl)⟩ (mN zp) Kr (sb 1)))))))))
   ·have zr:=QE h3
    refine TC.exit (Yc (Yc (Z1 ?_)))
    exact TE.cut (zm,A_newslice,xu) (⟨xg.trans (by subst hr1;rw[zr];exact rfl),(by have kp_:=hp.1;(try have kg_:=J1 hr1);(try have kx_:=hp.2 _ (aH hx));(try have kx_:=hp.2 _ (aH xw));exact sl)⟩) Kr (sb 1)
  ·rintro⟨z6,A_newslice_2,xq⟩ ⟨va,dc⟩
   refine YZ (Zc 2 [] [(2,.slice A_newslice_2 z6.length xq)] {} (Zb rfl (TC.ret ?_)))
   have e:Yx zd=z6:=by subst hr1;unfold Yx;exact Y5 (hR.symm.trans hJ) (Y5 (x9.symm.trans va) (rfl))
   rw[e]
   exact ZN (.inl rfl) (A_newslice_2,xq) [] (.slice A_newslice_2 z6.length xq) {} rfl (fun _ hM=>hM.sub (sb 1))
def XM (x:Zl):List Zw→Nat→(List Zr)→((List Zr) ⊕ (Bool))
 | [],_,xs_=>.inl xs_
 | x_2::xs,k_2,xs_=>let r5:=YD x_2 8
  let r6:=Z8 x (⟨8,r5,x_2.height,x_2.code,0⟩:Zm)
  cond (r6.2 != 0) (
   .inr false) (
   XM x xs (k_2+1) (xs_++([r6.1])))
def XN (noise:ByteArray) (r1:List Zw):List Zl→Nat→ByteArray→(List Zr)→((ByteArray×List Zr) ⊕ (Bool))
 | [],_,s,want=>.inl (s,want)
 | x::xs,k,s,want=>Sum.elim (fun qt =>
   let r7:=YF (⟨x.ID,8,qt⟩:Zs)
   cond (r7.2 != 0) (
    .inr false) (
    XN noise r1 xs (k+1) ((s++((noise).extract 0 ((ZC (noise.size:Int) 40).toNat)))++r7.1) (want++qt))) (fun r=>.inr r) (XM x r1 0 ([]:List Zr))
def X3 (l:List Int) (noise:ByteArray):Bool :=
 let r1:=Xl l
 let r2:=Q0
 cond (!r2) (
  false) (
  let r3:=YH (lb ((noise).extract 0 ((ZC (noise.size:Int) 40).toNat))) 83
  cond r3 (
   true) (
   let r4:=Xi
   Sum.elim (fun (s_2,x4) =>
    let r8:=Q7 s_2
    cond ((((r8.2.2.2 != 0)||(r8.2.1 != (w64 (2*(((noise).extract 0 ((ZC (noise.size:Int) 40).toNat)).size:Int)))))||(!(seq r8.2.2.1 (⟨#[]⟩:ByteArray))))||((r8.1.length:Int) != 2)) (
     false) (
     let r9:=Xi
     let r10:=Yx ([(r8.1[0]?.getD Zs.zero).Plots,(r8.1[1]?.getD Zs.zero).Plots])
     let r11:=Xr r9 r10
     let r12:=Xi
     let r13:=Xr r12 x4
     let r14:=YA r11.1 500
     cond (((r11.2==0)&&(r13.2==0))&&(r14.2==0)) (
      let r15:=Y1 r11.1 r13.1
      r15&&((r14.1.length:Int)==(r1.length:Int))) (
      false))) (fun r=>r) (XN noise r1 r4 0 (⟨#[]⟩:ByteArray) ([]:List Zr))))
theorem O6 (n:Nat) (m:Int) (h:0≤m):0≤ZC (n:Int) m:=by have:=GO (n:Int) m;omega
theorem O7 (n:Nat) (m:Int):(ZC (n:Int) m).toNat≤n:=by have:=BD (n:Int) m;omega
theorem K2 (x:ByteArray):(x.extract 0 (ZC (x.size:Int) 40).toNat).size≤40:=by
 rw[ByteArray.size_extract]
 have:=BE (x.size:Int) 40
 omega
theorem Je {f:Zs} {r:ByteArray×Int} (h:YF f=r):r.1.size≤600:=by
 subst h
 rcases GZ f with ⟨e,h,_⟩|⟨_,hl,h⟩
 ·rw[h];exact aN _
 ·rw[h]
  show (strOf _).size≤_
  rw[ZS,aI,Y8,LF]
  omega
theorem NV:∀ (n:Nat) (s:ByteArray) (out:List Zs) (lost:Int) (r:List Zs×Int×ByteArray×Int),(∀ f∈out,f.Plots.length≤32)→YN n s out lost=some (.inr r)→∀ f∈r.1,f.Plots.length≤32
 | 0,_,_,_,_,_,h=>by cases h
 | n+1,s,out,lost,r,ho,h=>by
  unfold YN at h
  dsimp only at h
  cases h1:((ZE s).2.2==0) with
  | true =>
   rw[h1,cond_true] at h
   refine NV n _ _ _ r (fun f hf=>?_) h
   rcases bD.1 hf with hf|hf
   ·exact ho f hf
   ·rw[aV.1 hf]
    rcases FD s with ⟨e,h2,he⟩|⟨m,xs,hd,h2⟩
    ·rw[h2] at h1;exact absurd (by simpa using h1) he
    ·rw[h2]
     rcases GZ ⟨w64 (bat s 2),w64 (Yq (s.extract 3 7)),xs⟩ with ⟨e,h3,h4,_⟩|⟨_,hl,_⟩
     ·have:=hd.enc
      rw[h3] at this
      exact absurd this h4
     ·exact hl
  | false =>
   rw[h1,cond_false] at h
   cases h2:((ZE s).2.2==8) with
   | true=>rw[h2,cond_true] at h;cases h;exact ho
   | false=>rw[h2,cond_false] at h;exact NV n _ _ _ r ho h
theorem EI {s:ByteArray} {r:List Zs×Int×ByteArray×Int} (h:Q7 s=r):∀ f∈r.1,f.Plots.length≤32:=by
 subst h
 unfold Q7
 cases decide ((s.size:Int)>131072)
 ·rw[cond_false]
  cases h:YN (s.size+1) s [] 0 with
  | none=>exact fun f hf=>(List.not_mem_nil hf).elim
  | some x=>cases x with
   | inl u=>exact fun f hf=>(List.not_mem_nil hf).elim
   | inr r=>exact NV _ _ _ _ r (fun f hf=>(List.not_mem_nil hf).elim) h
 ·exact fun f hf=>(List.not_mem_nil hf).elim
theorem LJ {s:ByteArray} {r:List Zs×Int×ByteArray×Int} (h:Q7 s=r) (i:Nat):((r.1[i]?.getD Zs.zero).Plots).length≤32:=by
 cases e:r.1[i]? with
 | none=>exact aN _
 | some f=>exact EI h f (aH e)
theorem IR {a b:List Zr} (ha:a.length≤32) (hb:b.length≤32):([a,b]:List (List Zr)).length≤2∧∀ s ∈ [a,b],s.length≤100000:=by
 refine⟨aR _,fun s hs=>?_⟩
 rcases bA.1 hs with rfl|hs
 ·omega
 ·rw[aV.1 hs];omega
theorem QA {a:Bool} {n:Nat} (h:(a||((n:Int) != 2))=false):n=2:=by
 cases a with
 | true=>cases h
 | false =>
  rw[Bool.false_or] at h
  have:(n:Int)=2:=by simpa using h
  omega
set_option maxHeartbeats 4000000 in
theorem Wj (A_l:Option Addr) (c_l:Nat) (l:List Int) (noise:ByteArray) (w:World) (h_l:Rd w 1 A_l (l.map ic)) (ui:l.length≤c_l) (hT:W4 w):Calls Tryz.prog 3 #[.slice A_l l.length c_l,.string noise] w (Ret w (.bool (X3 l noise))):=by
 have s_l:=h_l.short;rw[aF] at s_l
 refine Zo (vs:=[.slice A_l l.length c_l,.string noise]) (w:=w) Tryz.func3 rfl Tryz.ntmps3 rfl (Ze (Zc 1 [] [(4,.b false)] {} (Zv (Zc 1 [] [(27,.slice A_l l.length c_l)] {} (UR (Γ:=AN) 28 (Xl l) (fun r1 g=>.slice g.1 r1.length g.2) (fun r1 g=>[Ow g.1 g.2 38 6 (r1.map Zw.c)]) (fun w hM=>G8 A_l c_l l w (h_l.sat hM) ui) {} (fun r1 hr1=>?_))))))
 have kf_:Fls r1:=(by rw[← hr1];exact O5 l);have kfl_:=kf_.len
 rintro⟨A,c⟩
 refine Y2 (fun w hM=>hM.short_at 0 rfl) (fun p7=>Zc 3 [] [(5,.slice A r1.length c)] {} (Zz (Ze (TL.c 29 (Q0) (fun r2=>.b r2) (fun w _=>WE w) {} (fun r2 hr2=>Zc 2 [] [(30,.b (!r2))] {} (Zb rfl (TC.cond (!r2) rfl Kr (fun h1=>?_) (fun h1=>?_))))))))
 ·exact Ze (Zc 1 [] [(4,.b false)] {} (Zb rfl (TC.ret (Zq (TE.ret [] (.b false) {} (by unfold X3;refine eS (fun z=>(.b z:Value)) ?_;subst hr1 hr2;exact Zk h1 (rfl)))))))
 ·refine ZI (Zc 4 [] [(31,.string noise),(34,.i (ZC (noise.size:Int) 40))] {} (TL.v (sV (Instr.sliceAt 9 (.string noise) none (some (.i (ZC (noise.size:Int) 40))) none)) 35 (.string ((noise).extract 0 ((ZC (noise.size:Int) 40).toNat))) (fun w hM=>XO 0 ((ZC (noise.size:Int) 40).toNat) Kr (.inl ⟨rfl,rfl⟩) (.inr ⟨_,_,rfl,(by first|exact aN _|exact O6 _ _ (by decide)|exact O7 _ _),rfl⟩) (by first|exact aN _|exact O6 _ _ (by decide)|exact O7 _ _) (by first|exact aN _|exact O6 _ _ (by decide)|exact O7 _ _)) {} (Zc 6 [] [(1,.string ((noise).extract 0 ((ZC (noise.size:Int) 40).toNat)))] {} (Zz (Ze (Zc 1 [] [(36,.string ((noise).extract 0 ((ZC (noise.size:Int) 40).toNat)))] {} (GK (Γ:=AN) (sV (convert 9 27 (.string ((noise).extract 0 ((ZC (noise.size:Int) 40).toNat))))) (some 37) (fun g=>.slice g.1 (lb ((noise).extract 0 ((ZC (noise.size:Int) 40).toNat))).length g.2) (fun g=>[.inr (Rdo g.1 g.2 1 ((lb ((noise).extract 0 ((ZC (noise.size:Int) 40).toNat))).map ic8)),Ow A c 38 6 (r1.map Zw.c)]) (fun g=>[(1,.string ((noise).extract 0 ((ZC (noise.size:Int) 40).toNat))),(5,.slice A r1.length c),(37,.slice g.1 ((lb ((noise).extract 0 ((ZC (noise.size:Int) 40).toNat))).length) g.2)]) (bytes_at (e:=5) ((noise).extract 0 ((ZC (noise.size:Int) 40).toNat)) Kr Kr Kr (by (try have kc_:=K2 noise);(try have vp:=Je hr7);(try have kg_:=QA h4);omega)) Kr (fun g=>Kr) ?_)))))))
  rintro⟨A_2,c_2⟩
  refine TL.c 38 (YH (lb ((noise).extract 0 ((ZC (noise.size:Int) 40).toNat))) 83) (fun r3=>.b r3) (fun w hM=>VO A_2 c_2 (lb ((noise).extract 0 ((ZC (noise.size:Int) 40).toNat))) 83 w (hM.rdo_at 0 rfl) (hM.rdo_len 0 rfl)) {} (fun r3 hr3=>Zb rfl (TC.cond r3 rfl Kr (fun h2=>?_) (fun h2=>?_)))
  ·exact Ze (Zc 1 [] [(4,.b true)] {} (Zb rfl (TC.ret (Zq (TE.ret [] (.b true) {} (by unfold X3;refine eS (fun z=>(.b z:Value)) ?_;subst hr1 hr2 hr3;exact Zd h1 (Zk h2 (rfl))))))))
  ·refine ZI (Zc 1 [] [(6,.string (⟨#[]⟩:ByteArray))] {} (Zv (Zc 1 [] [(7,.slice none 0 0)] {} (Zz (Ze (UR (Γ:=AN) 39 (Xi) (fun r4 g=>.slice g.1 r4.length g.2) (fun r4 g=>[Ow g.1 g.2 34 6 (r4.map Zl.c)]) (fun w _=>KC w) {} (fun r4 hr4=>?_)))))))
   have kr4_:r4.length=2:=by rw[← hr4];rfl
   rintro⟨A_3,c_3⟩
   refine Y2 (fun w hM=>hM.short_at 0 rfl) (fun ru=>Zc 3 [] [(40,.i (r4.length:Int)),(41,.i 0)] {} (Zb rfl (QS [Ow none 0 40 6 (([]:List Zr).map Zr.c),Ow A_3 c_3 34 6 (r4.map Zl.c),.inr (Rdo A_2 c_2 1 ((lb ((noise).extract 0 ((ZC (noise.size:Int) 40).toNat))).map ic8)),Ow A c 38 6 (r1.map Zw.c)] (fun _ hM=>hM.emptyrow none 40 6) ?_)))
   obtain⟨R3,hR⟩:∃ R,R=XN noise r1 r4 0 (⟨#[]⟩:ByteArray) ([]:List Zr):=⟨_,rfl⟩
   refine TC.cut (S:=ByteArray×(List Zr)×(Option Addr)×Nat) (fun (s_2,x4,A_want_2,xf)=>[(1,.string ((noise).extract 0 ((ZC (noise.size:Int) 40).toNat))),(5,.slice A r1.length c),(6,.string s_2),(7,.slice A_want_2 x4.length xf)]) (fun (s_2,x4,A_want_2,xf)=>[Ow A_want_2 xf 40 6 (x4.map Zr.c),Ow A c 38 6 (r1.map Zw.c)]) (fun (s_2,x4,A_want_2,xf)=>R3=.inl (s_2,x4)∧x4.length≤3*r4.length) ?_ ?_
   ·refine TC.block (XB (X:=Nat×ByteArray×(List Zr)×(Option Addr)×Nat) (fun (k,s,want,A_want,xm)=>[(1,.string ((noise).extract 0 ((ZC (noise.size:Int) 40).toNat))),(5,.slice A r1.length c),(6,.string s),(7,.slice A_want want.length xm),(39,.slice A_3 r4.length c_3),(40,.i (r4.length:Int)),(41,.i (k:Int))]) (fun (k,s,want,A_want,xm)=>[Ow A_want xm 40 6 (want.map Zr.c),Ow A_3 c_3 34 6 (r4.map Zl.c),Ow A c 38 6 (r1.map Zw.c)]) (fun (k,s,want,A_want,xm)=>r4.length-k) (fun (k,s,want,A_want,xm)=>k≤r4.length∧R3=XN noise r1 (r4.drop k) k s want∧want.length≤3*k∧(s.size≤700*k)) ?_ (0,(⟨#[]⟩:ByteArray),([]:List Zr),none,0) ⟨aN _,hR,sz,(aN _)⟩ Kr (sb 11))
    rintro⟨k,s,want,A_want,xm⟩ ⟨hk,hI,bb,cv⟩
    refine Ze (Zc 1 [] [(42,.b (decide ((k:Int)<(r4.length:Int))))] {} (Zz (TC.cond (decide ((k:Int)<(r4.length:Int))) rfl Kr (fun h3=>?_) (fun h3=>?_))))
    ·have hlt:=ltN h3
     obtain⟨x,hx⟩:=elN hlt
     have hd:=drop_at hx
     refine Yg (TC.seq (TC.block (Ze (TL.v (sV (Instr.indexAt 29 (.slice A_3 r4.length c_3) (.i (k:Int)))) 43 (.pointer (some (Ix A_3 (k*6)))) (fun w hM=>Zy (hM.rd_at 1 rfl) (by simp) Kr (by (try have kc_:=K2 noise);(try have vp:=Je hr7);(try have kg_:=QA h4);exact sd) (by (try have kc_:=K2 noise);(try have vp:=Je hr7);(try have kg_:=QA h4);exact sd)) {} (TL.v (sV (Instr.loadAt 34 (.pointer (some (Ix A_3 (k*6)))))) 44 (Zl.v x) (fun w hM=>Yd (n:=6) (off:=0) (i:=k) (Zl.v x) (hM.rd_at 1 rfl) (ZR hx) Kr Kr Kr) {} (ZH 9 (fun b1=>.p0 b1) (fun b1=>Bk b1 (Zl.c Zl.zero) 34) (fun b1=>{}) (fun b1=>Ym 0 (Bk b1 (Zl.c x) 34) (fun _=>{}) (Zv (Zc 3 [0] [(47,.agg #[.i x.ID,.i 8,.slice none 0 0])] {} (ZH 10 (fun b2=>.p0 b2) (fun b2=>Bk b2 #[.i 0,.i 0,.slice none 0 0] 36) (fun b2=>{}) (fun b2=>Ym 0 (Bk b2 #[.i x.ID,.i 8,.slice none 0 0] 36) (fun _=>{}) (Zz (Ze (Zc 3 [] [(48,.slice A r1.length c),(49,.i (r1.length:Int)),(50,.i 0)] {} (Zb rfl (QS [Ow none 0 40 6 (([]:List Zr).map Zr.c),Bk b2 #[.i x.ID,.i 8,.slice none 0 0] 36,Bk b1 (Zl.c x) 34,Ow A_want xm 40 6 (want.map Zr.c),Ow A_3 c_3 34 6 (r4.map Zl.c),Ow A c 38 6 (r1.map Zw.c)] (fun _ hM=>hM.emptyrow none 40 6) (QS [Ow none 0 40 6 (([]:List Zr).map Zr.c),Bk b2 #[.i x.ID,.i 8,.slice none (([]:List Zr).length) 0] 36,Bk b1 (Zl.c x) 34,Ow A_want xm 40 6 (want.map Zr.c),Ow A_3 c_3 34 6 (r4.map Zl.c),Ow A c 38 6 (r1.map Zw.c)] (fun _ hM=>hM) ?_)))))))))))))))))
     obtain⟨R5,x9⟩:∃ R,R=XM x r1 0 ([]:List Zr):=⟨_,rfl⟩
     refine TC.cut (S:=(List Zr)×(Option Addr)×Nat) (fun (qt,A_xs__2,qu)=>[(1,.string ((noise).extract 0 ((ZC (noise.size:Int) 40).toNat))),(5,.slice A r1.length c),(6,.string s),(7,.slice A_want want.length xm),(10,.p0 b2),(39,.slice A_3 r4.length c_3),(40,.i (r4.length:Int)),(41,.i (k:Int))]) (fun (qt,A_xs__2,qu)=>[Ow A_xs__2 qu 40 6 (qt.map Zr.c),Bk b2 #[.i x.ID,.i 8,.slice A_xs__2 qt.length qu] 36,Ow A_want xm 40 6 (want.map Zr.c),Ow A_3 c_3 34 6 (r4.map Zl.c),Ow A c 38 6 (r1.map Zw.c)]) (fun (qt,A_xs__2,qu)=>R5=.inl qt∧qt.length≤r1.length) ?_ ?_
     ·refine TC.block (XB (X:=Nat×(List Zr)×(Option Addr)×Nat) (fun (k_2,xs_,A_xs_,qh)=>[(1,.string ((noise).extract 0 ((ZC (noise.size:Int) 40).toNat))),(5,.slice A r1.length c),(6,.string s),(7,.slice A_want want.length xm),(9,.p0 b1),(10,.p0 b2),(39,.slice A_3 r4.length c_3),(40,.i (r4.length:Int)),(41,.i (k:Int)),(48,.slice A r1.length c),(49,.i (r1.length:Int)),(50,.i (k_2:Int))]) (fun (k_2,xs_,A_xs_,qh)=>[Ow A_xs_ qh 40 6 (xs_.map Zr.c),Bk b2 #[.i x.ID,.i 8,.slice A_xs_ xs_.length qh] 36,Bk b1 (Zl.c x) 34,Ow A_want xm 40 6 (want.map Zr.c),Ow A_3 c_3 34 6 (r4.map Zl.c),Ow A c 38 6 (r1.map Zw.c)]) (fun (k_2,xs_,A_xs_,qh)=>r1.length-k_2) (fun (k_2,xs_,A_xs_,qh)=>k_2≤r1.length∧R5=XM x (r1.drop k_2) k_2 xs_∧xs_.length≤k_2) ?_ (0,([]:List Zr),none,0) ⟨aN _,x9,sz⟩ Kr (sb 63))
      rintro⟨k_2,xs_,A_xs_,qh⟩ ⟨y9,xg,p6⟩
      refine Ze (Zc 1 [] [(51,.b (decide ((k_2:Int)<(r1.length:Int))))] {} (Zz (TC.cond (decide ((k_2:Int)<(r1.length:Int))) rfl Kr (fun h4=>?_) (fun h4=>?_))))
      ·have zp:=ltN h4
       obtain⟨x_2,xw⟩:=elN zp
       have zr:=drop_at xw
       refine Yg (TC.seq (TC.block (Ze (TL.v (sV (Instr.indexAt 23 (.slice A r1.length c) (.i (k_2:Int)))) 52 (.pointer (some (Ix A (k_2*6)))) (fun w hM=>Zy (hM.rd_at 5 rfl) (by simp) Kr (by (try have kc_:=K2 noise);(try have vp:=Je hr7);(try have kg_:=QA h4);exact sd) (by (try have kc_:=K2 noise);(try have vp:=Je hr7);(try have kg_:=QA h4);exact sd)) {} (TL.v (sV (Instr.loadAt 38 (.pointer (some (Ix A (k_2*6)))))) 53 (Zw.v x_2) (fun w hM=>Yd (n:=6) (off:=0) (i:=k_2) (Zw.v x_2) (hM.rd_at 5 rfl) (ZR xw) Kr Kr Kr) {} (ZH 12 (fun b3=>.p0 b3) (fun b3=>Bk b3 (Zw.c Zw.zero) 38) (fun b3=>{}) (fun b3=>Ym 0 (Bk b3 (Zw.c x_2) 38) (fun _=>{}) (Zz ?_))))))))
       obtain⟨r5,hr5⟩:∃ r,YD x_2 8=r:=⟨_,rfl⟩
       obtain⟨r6,hr6⟩:∃ r,Z8 x (⟨8,r5,x_2.height,x_2.code,0⟩:Zm)=r:=⟨_,rfl⟩
       let Mr16_:Mem:=[Bk b3 (Zw.c x_2) 38,Ow A_xs_ qh 40 6 (xs_.map Zr.c),Bk b2 #[.i x.ID,.i 8,.slice A_xs_ xs_.length qh] 36,Bk b1 (Zl.c x) 34,Ow A_want xm 40 6 (want.map Zr.c),Ow A_3 c_3 34 6 (r4.map Zl.c),Ow A c 38 6 (r1.map Zw.c)]
       refine Jt (G:=Nat) (base:=[(1,.string ((noise).extract 0 ((ZC (noise.size:Int) 40).toNat))),(5,.slice A r1.length c),(6,.string s),(7,.slice A_want want.length xm),(9,.p0 b1),(10,.p0 b2),(12,.p0 b3),(39,.slice A_3 r4.length c_3),(40,.i (r4.length:Int)),(41,.i (k:Int)),(48,.slice A r1.length c),(49,.i (r1.length:Int)),(50,.i (k_2:Int))]) (vals:=fun γ=>[Zl.v x,Zw.v x_2,P.v r5,.pt b3 4,.i x_2.height,.pt b3 5,.i x_2.code,Zm.v (⟨8,r5,x_2.height,x_2.code,0⟩:Zm),.tuple #[Zr.v r6.1,.i r6.2],.tuple #[Zr.v r6.1,.i r6.2],Zr.v r6.1,.i r6.2,.p0 γ,undef,.i r6.2]) (writes:=[12,13]) (mem:=fun bs γ=>match bs with | [uh,x13_]=>(bif x13_ then [Bk γ (Zr.c r6.1) 40] else bif uh then [Bk γ (Zr.c Zr.zero) 40] else [])++(Mr16_)|_=>[]) (0) (fun γ=>[(1,.string ((noise).extract 0 ((ZC (noise.size:Int) 40).toNat))),(5,.slice A r1.length c),(6,.string s),(7,.slice A_want want.length xm),(9,.p0 b1),(10,.p0 b2),(13,.p0 γ),(14,.i r6.2),(39,.slice A_3 r4.length c_3),(40,.i (r4.length:Int)),(41,.i (k:Int)),(48,.slice A r1.length c),(49,.i (r1.length:Int)),(50,.i (k_2:Int))]) Kr Kr Kr Kr Kr (fun γ=>Kr) (fun _ hM=>hM) (fun γ=>Kr) ?_ ?_
       ·skip
        exact Steps.run (i:=0) 2 [3,0] Mr16_ Kr Kr (fun S (γ:Nat) w hM=>by rw[mS2 rfl rfl] at hM;exact hM.sub (Zh (aA _))) Kr (fun (γ:Nat)=>{}) (Steps.call (i:=2) 9 (fun (γ:Nat)=>#[Zw.v x_2,.i 8]) (some 57) (fun (γ:Nat)=>P.v r5) (fun (γ:Nat)=>[Bk b3 (Zw.c x_2) 38,Ow A_xs_ qh 40 6 (xs_.map Zr.c),Bk b2 #[.i x.ID,.i 8,.slice A_xs_ xs_.length qh] 36,Bk b1 (Zl.c x) 34,Ow A_want xm 40 6 (want.map Zr.c),Ow A_3 c_3 34 6 (r4.map Zl.c),Ow A c 38 6 (r1.map Zw.c)]) Kr (fun S (γ:Nat) w _ hM=>by rw[mS2 rfl rfl] at hM;exact hM.sub (Zh (aA _))) (fun (γ:Nat) w _=>by have h:=Ur x_2 8 w;rw[hr5] at h;exact h) (fun (γ:Nat)=>Kr) (fun (γ:Nat)=>Kr) (Steps.run (i:=3) 8 [0,0,0,0,0] Mr16_ Kr Kr (fun S (γ:Nat) w hM=>by rw[mS2 rfl rfl] at hM;exact hM.sub (Zh (aA _))) Kr (fun (γ:Nat)=>{}) (Steps.call (i:=8) 8 (fun (γ:Nat)=>#[Zl.v x,Zm.v (⟨8,r5,x_2.height,x_2.code,0⟩:Zm)]) (some 63) (fun (γ:Nat)=>.tuple #[Zr.v r6.1,.i r6.2]) (fun (γ:Nat)=>[Bk b3 (Zw.c x_2) 38,Ow A_xs_ qh 40 6 (xs_.map Zr.c),Bk b2 #[.i x.ID,.i 8,.slice A_xs_ xs_.length qh] 36,Bk b1 (Zl.c x) 34,Ow A_want xm 40 6 (want.map Zr.c),Ow A_3 c_3 34 6 (r4.map Zl.c),Ow A c 38 6 (r1.map Zw.c)]) Kr (fun S (γ:Nat) w _ hM=>by rw[mS2 rfl rfl] at hM;exact hM.sub (Zh (aA _))) (fun (γ:Nat) w hM=>by have h:=N6 x (⟨8,r5,x_2.height,x_2.code,0⟩:Zm) w (hT.sat hM);rw[hr6] at h;exact h) (fun (γ:Nat)=>Kr) (fun (γ:Nat)=>Kr) (Steps.run (i:=9) 12 [0,0,0] Mr16_ Kr Kr (fun S (γ:Nat) w hM=>by rw[mS2 rfl rfl] at hM;exact hM.sub (Zh (aA _))) Kr (fun (γ:Nat)=>{}) (Steps.op (i:=12) (Γ:=Nat) (fun g (γ:Nat)=>g) (fun _=>[]) (fun b (γ:Nat)=>[Bk b (Zr.c Zr.zero) 40]) (fun S (γ:Nat)=>Mr16_) [12,13,14] (fun (γ:Nat)=>sV (Instr.alloc 40 true (.tuple #[]))) (some 13) (fun b (γ:Nat)=>.p0 b) (fun S (γ:Nat) hj hd hl=>by rw[mS2 hj (hl 13 Kr)];exact aC _) (fun S (γ:Nat) g hl=>by rw[mS2 (S:=upS S 12) (a0:=12) (a1:=13) rfl (hl 13 Kr)];exact(aC _).symm) (fun (γ:Nat) M' w hM=>Jd (v:=fun b=>.p0 b) (fun b M=>Kr) M' w hM) (fun (γ:Nat)=>Kr) (fun (γ:Nat) g=>Kr) Kr (fun (γ:Nat) g=>Kr) (Steps.put (i:=13) (fun (γ:Nat)=>[Bk γ (Zr.c Zr.zero) 40]) (fun (γ:Nat)=>[Bk γ (Zr.c r6.1) 40]) (fun S (γ:Nat)=>Mr16_) (fun (γ:Nat)=>sU (Instr.storeAt 40 (.p0 γ) (Zr.v r6.1))) none (fun S (γ:Nat) hj hd hl=>by rw[mS2 (hd 12 Kr) hj];exact aC _) (fun S (γ:Nat) _=>(aC _).symm) (fun (γ:Nat) M' w hM=>JJ (fun b M=>Kr) (fun b M=>Kr) M' w hM) (fun (γ:Nat)=>Kr) (fun (γ:Nat)=>Kr) (Steps.run (i:=14) 15 [0] Mr16_ Kr Kr (fun S (γ:Nat) w hM=>by rw[mS2 rfl rfl] at hM;exact hM.sub (Zh (aA _))) Kr (fun (γ:Nat)=>{}) (XH Kr))))))))
       ·rintro b4
        refine Yp [Bk b4 (Zr.c r6.1) 40,Bk b3 (Zw.c x_2) 38,Ow A_xs_ qh 40 6 (xs_.map Zr.c),Bk b2 #[.i x.ID,.i 8,.slice A_xs_ xs_.length qh] 36,Bk b1 (Zl.c x) 34,Ow A_want xm 40 6 (want.map Zr.c),Ow A_3 c_3 34 6 (r4.map Zl.c),Ow A c 38 6 (r1.map Zw.c)] (fun _ hM=>hM) (Z4 (TC.seq (Ze (Zc 2 [] [(67,.b (r6.2 != 0))] {} (Zb rfl (TC.cond (r6.2 != 0) rfl Kr (fun h5=>?_) (fun h5=>?_)))))))
        ·refine Ze (Zc 1 [] [(4,.b false)] {} (Zb rfl (TC.ret (Zq (ZY (Zq (Zq (ZY (Zq (Zq (ZY (Zq (Zq (ZY (Zq (Zq ?_))))))))))))))))
         exact TE.ret [] (.b false) {} (by unfold X3;refine eS (fun z=>(.b z:Value)) ?_;subst hr1 hr2 hr3 hr4 hr5 hr6;exact Zd h1 (Zd h2 (Q4 (hR.symm.trans (hI.trans (by rw[hd];exact Q4 (x9.symm.trans (xg.trans (by rw[zr];exact Zk h5 (rfl)))) rfl))) rfl)))
        ·have yr:=(Jb h5)
         refine Yg (TC.region (Zc 3 [3,0] [(69,.slice A_xs_ xs_.length qh),(70,Zr.v r6.1)] {} (ZH 71 (fun b5=>.slice (Pa b5) 1 1) (fun b5=>Bk b5 (Zr.c r6.1) 40) (fun b5=>{}) (fun b5=>TL.os (Γ:=AN) (sV (Builtin.append_ #[28,28] 28 #[.slice A_xs_ xs_.length qh,.slice (Pa b5) 1 1])) 72 (fun g=>.slice g.1 (xs_++([r6.1])).length g.2) 3 (fun g=>Ow g.1 g.2 40 6 ((xs_++([r6.1])).map Zr.c)) (Jc (bytes:=48) 28 3 ([r6.1]) Kr rfl rfl Zr.one rfl (fun w hM=>(Rd.lit hM 0 _ rfl Kr Kr Kr)) rfl (by (try have kc_:=K2 noise);(try have vp:=Je hr7);(try have kg_:=QA h4);exact sa)) {} ?_))))
         rintro⟨A_4,c_4⟩
         exact Zc 6 [] [(73,.pt b2 2)] {} (Ym 4 (Bk b2 #[.i x.ID,.i 8,.slice A_4 ((xs_++([r6.1])).length) c_4] 36) (fun _=>{}) (Z2 rfl (Yr (Z4 (TC.region (Zc 2 [] [(50,.i (w64 ((k_2:Int)+1)))] {} (Z2 rfl (TE.rw 50 (.i (w64 ((k_2:Int)+1))) (.i ((k_2+1:Nat):Int)) Kr (ZT k_2 (by (try have kc_:=K2 noise);(try have vp:=Je hr7);(try have kg_:=QA h4);omega)) (Z7 (x:=(k_2,xs_,A_xs_,qh)) (k_2+1,(xs_++([r6.1])),A_4,c_4) ⟨by omega,xg.trans (by subst hr1 hr2 hr3 hr4 hr5 hr6;rw[zr];exact Zd h5 (rfl)),(by (try have kc_:=K2 noise);(try have vp:=Je hr7);(try have kg_:=QA h4);exact sl)⟩ (mN zp) Kr (sb 504))))))))))
      ·have zr:=QE h4
       refine TC.exit (Yc (Yc (Z1 ?_)))
       exact TE.cut (xs_,A_xs_,qh) (⟨xg.trans (by subst hr1 hr2 hr3 hr4;rw[zr];exact rfl),(by (try have kc_:=K2 noise);(try have vp:=Je hr7);(try have kg_:=QA h4);exact sl)⟩) Kr (sb 59)
     ·rintro⟨qt,A_xs__2,qu⟩ ⟨va,y1⟩
      refine YZ (Zc 1 [1] [(76,.agg #[.i x.ID,.i 8,.slice A_xs__2 qt.length qu])] {} (TL.c 77 (YF (⟨x.ID,8,qt⟩:Zs)) (fun r7=>.tuple #[.string r7.1,.i r7.2]) (fun w hM=>Wt (⟨x.ID,8,qt⟩:Zs) A_xs__2 qu w (hM.rd_at 0 rfl) (hM.le_at 0 rfl)) {} (fun r7 hr7=>Zc 7 [] [(15,.string r7.1),(16,.i r7.2)] {} (Zz (Ze (Zc 2 [] [(81,.b (r7.2 != 0))] {} (Zb rfl (TC.cond (r7.2 != 0) rfl Kr (fun h6=>?_) (fun h6=>?_)))))))))
      ·refine Ze (Zc 1 [] [(4,.b false)] {} (Zb rfl (TC.ret (Zq (ZY (Zq (Zq (ZY (Zq (Zq ?_))))))))))
       exact TE.ret [] (.b false) {} (by unfold X3;refine eS (fun z=>(.b z:Value)) ?_;subst hr1 hr2 hr3 hr4 hr7;exact Zd h1 (Zd h2 (Q4 (hR.symm.trans (hI.trans (by rw[hd];exact Q2 (x9.symm.trans va) (Zk h6 (rfl))))) rfl)))
      ·have yv:=(Jb h6)
       refine Yg (TC.region (Zc 2 [] [(82,.string s),(83,.string ((noise).extract 0 ((ZC (noise.size:Int) 40).toNat)))] {} (TL.v (sV (binOp .add 9 (.string s) (.string ((noise).extract 0 ((ZC (noise.size:Int) 40).toNat))))) 84 (.string (s++((noise).extract 0 ((ZC (noise.size:Int) 40).toNat)))) (fun w hM=>HU (by (try have kc_:=K2 noise);(try have vp:=Je hr7);(try have kg_:=QA h4);first|omega|(simp only[ByteArray.size_append];omega))) {} (Zc 4 [] [(85,.string r7.1)] {} (TL.v (sV (binOp .add 9 (.string (s++((noise).extract 0 ((ZC (noise.size:Int) 40).toNat)))) (.string r7.1))) 86 (.string ((s++((noise).extract 0 ((ZC (noise.size:Int) 40).toNat)))++r7.1)) (fun w hM=>HU (by (try have kc_:=K2 noise);(try have vp:=Je hr7);(try have kg_:=QA h4);first|omega|(simp only[ByteArray.size_append];omega))) {} (Zc 8 [1] [(87,.slice A_want want.length xm),(89,.slice A_xs__2 qt.length qu)] {} (TL.os (Γ:=AN) (sV (Builtin.append_ #[28,28] 28 #[.slice A_want want.length xm,.slice A_xs__2 qt.length qu])) 90 (fun g=>.slice g.1 (want++qt).length g.2) 2 (fun g=>Ow g.1 g.2 40 6 ((want++qt).map Zr.c)) (Jc (bytes:=48) 28 2 qt Kr rfl rfl Zr.one rfl (fun w hM=>(hM.rd_at 0 rfl)) rfl (by (try have kc_:=K2 noise);(try have vp:=Je hr7);(try have kg_:=QA h4);exact sa)) {} ?_)))))))
       rintro⟨A_5,c_5⟩
       exact Zc 11 [] [(6,.string ((s++((noise).extract 0 ((ZC (noise.size:Int) 40).toNat)))++r7.1)),(7,.slice A_5 ((want++qt).length) c_5)] {} (Z2 rfl (Yr (Z4 (TC.region (Zc 2 [] [(41,.i (w64 ((k:Int)+1)))] {} (Z2 rfl (TE.rw 41 (.i (w64 ((k:Int)+1))) (.i ((k+1:Nat):Int)) Kr (ZT k (by (try have kc_:=K2 noise);(try have vp:=Je hr7);(try have kg_:=QA h4);omega)) (Z7 (x:=(k,s,want,A_want,xm)) (k+1,(s++((noise).extract 0 ((ZC (noise.size:Int) 40).toNat)))++r7.1,(want++qt),A_5,c_5) ⟨by omega,hI.trans (by subst hr1 hr2 hr3 hr4 hr7;rw[hd];exact Q2 (x9.symm.trans va) (Zd h6 (rfl))),(by (try have kc_:=K2 noise);(try have vp:=Je hr7);(try have kg_:=QA h4);exact sl),(by (try have kc_:=K2 noise);(try have vp:=Je hr7);(try have kg_:=QA h4);first|omega|(simp only[ByteArray.size_append];omega))⟩ (mN hlt) Kr (sb 28)))))))))
    ·have hd:=QE h3
     refine TC.exit (Yc (Yc (Z1 ?_)))
     exact TE.cut (s,want,A_want,xm) (⟨hI.trans (by subst hr1 hr2 hr3 hr4;rw[hd];exact rfl),(by (try have kc_:=K2 noise);(try have vp:=Je hr7);(try have kg_:=QA h4);exact sl)⟩) Kr (sb 5)
   ·rintro⟨s_2,x4,A_want_2,xf⟩ ⟨hJ,tm⟩
    refine YZ (Zc 1 [] [(93,.string s_2)] {} (UR (Γ:=(AN×List (Zp))) 94 (Q7 s_2) (fun r8 g=>.tuple #[.slice g.1.1 r8.1.length g.1.2,.i r8.2.1,.string r8.2.2.1,.i r8.2.2.2]) (fun r8 g=>[.inr (XG (r8.1=g.2.map Zp.p)),Ow g.1.1 g.1.2 36 3 (g.2.map Zp.c),.inr (Bag 40 6 Zr.c (g.2.map Zp.Plots))]) (fun w _=>LI s_2 w) {} (fun r8 hr8=>?_)))
    rintro⟨⟨A_6,c_6⟩,o⟩
    refine Y2 (fun w hM=>hM.fact_at 0 rfl) (fun jz=>YK [Ow A_6 c_6 36 3 (o.map Zp.c),.inr (Bag 40 6 Zr.c (o.map Zp.Plots)),Ow A_want_2 xf 40 6 (x4.map Zr.c),Ow A c 38 6 (r1.map Zw.c)] (.cons _ (aA _)) (Y2 (fun w hM=>hM.short_at 0 rfl) (fun ar=>?_)))
    have tc:=Ho jz
    refine Zc 11 [] [(17,.slice A_6 r8.1.length c_6),(18,.i r8.2.1),(19,.string r8.2.2.1),(20,.i r8.2.2.2)] {} (Zz (Ze (Zc 3 [] [(101,.b (r8.2.2.2 != 0))] {} (XT 101 (r8.2.2.2 != 0) 9 [] [] (fun β=>[(107,.b (β||(r8.2.1 != (w64 (2*(((noise).extract 0 ((ZC (noise.size:Int) 40).toNat)).size:Int))))))]) Kr {} {} (Zc 10 [] [(108,.b ((r8.2.2.2 != 0)||(r8.2.1 != (w64 (2*(((noise).extract 0 ((ZC (noise.size:Int) 40).toNat)).size:Int))))))] {} (XT 108 ((r8.2.2.2 != 0)||(r8.2.1 != (w64 (2*(((noise).extract 0 ((ZC (noise.size:Int) 40).toNat)).size:Int))))) 13 [] [] (fun β=>[(111,.b (β||(!(seq r8.2.2.1 (⟨#[]⟩:ByteArray)))))]) Kr {} {} (Zc 14 [] [(112,.b (((r8.2.2.2 != 0)||(r8.2.1 != (w64 (2*(((noise).extract 0 ((ZC (noise.size:Int) 40).toNat)).size:Int)))))||(!(seq r8.2.2.1 (⟨#[]⟩:ByteArray)))))] {} (XT 112 (((r8.2.2.2 != 0)||(r8.2.1 != (w64 (2*(((noise).extract 0 ((ZC (noise.size:Int) 40).toNat)).size:Int)))))||(!(seq r8.2.2.1 (⟨#[]⟩:ByteArray)))) 18 [] [] (fun β=>[(116,.b (β||((r8.1.length:Int) != 2)))]) Kr {} {} (Zb rfl (TC.cond ((((r8.2.2.2 != 0)||(r8.2.1 != (w64 (2*(((noise).extract 0 ((ZC (noise.size:Int) 40).toNat)).size:Int)))))||(!(seq r8.2.2.1 (⟨#[]⟩:ByteArray))))||((r8.1.length:Int) != 2)) rfl Kr (fun h7=>?_) (fun h7=>?_)))))))))))
    ·exact Ze (Zc 1 [] [(4,.b false)] {} (Zb rfl (TC.ret (Zq (TE.ret [] (.b false) {} (by unfold X3;refine eS (fun z=>(.b z:Value)) ?_;subst hr1 hr2 hr3 hr4 hr8;exact Zd h1 (Zd h2 (Q2 (hR.symm.trans hJ) (Zk h7 (rfl))))))))))
    ·have ym:=(Jb (Zx (Zx (Zx h7))))
     have q7_1:=(Jb (Z9 (Zx (Zx h7))))
     have q7_2:=(Jb (Z9 h7))
     refine Yg (TC.seq ?_)
     obtain⟨r9,hr9⟩:∃ r,Xi=r:=⟨_,rfl⟩
     obtain⟨r10,zl⟩:∃ r,Yx ([(r8.1[0]?.getD Zs.zero).Plots,(r8.1[1]?.getD Zs.zero).Plots])=r:=⟨_,rfl⟩
     obtain⟨r11,zo⟩:∃ r,Xr r9 r10=r:=⟨_,rfl⟩
     let Mr29_:Mem:=[Ow A_6 c_6 36 3 (o.map Zp.c),.inr (Bag 40 6 Zr.c (o.map Zp.Plots)),Ow A_want_2 xf 40 6 (x4.map Zr.c),Ow A c 38 6 (r1.map Zw.c)]
     refine Jt (G:=AN×Nat×AN×AN) (base:=[(5,.slice A r1.length c),(7,.slice A_want_2 x4.length xf),(17,.slice A_6 r8.1.length c_6)]) (vals:=fun γ=>[.slice (γ.1.1) r9.length (γ.1.2),.slice A_6 r8.1.length c_6,.pointer (some (Ix A_6 (0*3))),.pointer (some ((Ix A_6 (0*3)).add 2)),.slice ((o[0]?.getD Zp.zero).Plots.A) ((r8.1[0]?.getD Zs.zero).Plots.length) ((o[0]?.getD Zp.zero).Plots.cap),.slice A_6 r8.1.length c_6,.pointer (some (Ix A_6 (1*3))),.pointer (some ((Ix A_6 (1*3)).add 2)),.slice ((o[1]?.getD Zp.zero).Plots.A) ((r8.1[1]?.getD Zs.zero).Plots.length) ((o[1]?.getD Zp.zero).Plots.cap),.slice (Pa γ.2.1) 2 2,.slice (γ.2.2.1.1) r10.length (γ.2.2.1.2),.tuple #[.slice (γ.2.2.2.1) r11.1.length (γ.2.2.2.2),.i r11.2],.tuple #[.slice (γ.2.2.2.1) r11.1.length (γ.2.2.2.2),.i r11.2],.slice (γ.2.2.2.1) r11.1.length (γ.2.2.2.2),.i r11.2,.slice (γ.2.2.2.1) r11.1.length (γ.2.2.2.2),.i r11.2]) (writes:=[0,9,10,11]) (mem:=fun bs γ=>match bs with | [x0_,x9_,pz,fk]=>(bif x0_ then [Ow (γ.1.1) (γ.1.2) 34 6 (r9.map Zl.c)] else [])++((bif x9_ then [Bk γ.2.1 #[.slice ((o[0]?.getD Zp.zero).Plots.A) ((r8.1[0]?.getD Zs.zero).Plots.length) ((o[0]?.getD Zp.zero).Plots.cap),.slice ((o[1]?.getD Zp.zero).Plots.A) ((r8.1[1]?.getD Zs.zero).Plots.length) ((o[1]?.getD Zp.zero).Plots.cap)] 28] else [])++((bif pz then [Ow (γ.2.2.1.1) (γ.2.2.1.2) 40 6 (r10.map Zr.c)] else [])++((bif fk then [Ow (γ.2.2.2.1) (γ.2.2.2.2) 46 6 (r11.1.map Zm.c)] else [])++(Mr29_))))|_=>[]) ((none,0),0,(none,0),(none,0)) (fun γ=>[(5,.slice A r1.length c),(7,.slice A_want_2 x4.length xf),(21,.slice (γ.2.2.2.1) r11.1.length (γ.2.2.2.2)),(22,.i r11.2)]) Kr Kr Kr Kr Kr (fun γ=>Kr) (fun _ hM=>hM) (fun γ=>Kr) ?_ ?_
     ·skip
      exact GL (i:=0) (Γ:=AN) (fun g (γ:AN×Nat×AN×AN)=>(g,γ.2.1,γ.2.2.1,γ.2.2.2)) 7 (fun (γ:AN×Nat×AN×AN)=>#[]) (fun (γ:AN×Nat×AN×AN)=>[Ow A_6 c_6 36 3 (o.map Zp.c),.inr (Bag 40 6 Zr.c (o.map Zp.Plots)),Ow A_want_2 xf 40 6 (x4.map Zr.c),Ow A c 38 6 (r1.map Zw.c)]) (fun g (γ:AN×Nat×AN×AN)=>[Ow (g.1) (g.2) 34 6 (r9.map Zl.c)]) [0,10,11,12,13,14,15,16] (some 118) (fun g (γ:AN×Nat×AN×AN)=>.slice (g.1) r9.length (g.2)) (fun S (γ:AN×Nat×AN×AN) w _ hM=>by rw[mS4 rfl rfl rfl rfl] at hM;exact hM.sub (Zh (Zh (Zh (Zh (aA _)))))) (fun S (γ:AN×Nat×AN×AN) g hj _=>by rw[mS4 hj rfl rfl rfl];exact(aC _).symm) (fun (γ:AN×Nat×AN×AN) w _=>by have h:=KC w;rw[hr9] at h;exact h) (fun (γ:AN×Nat×AN×AN)=>Kr) (fun (γ:AN×Nat×AN×AN) g=>Kr) Kr (fun (γ:AN×Nat×AN×AN) g=>Kr) (Steps.run (i:=1) 2 [0] Mr29_ Kr Kr (fun S (γ:AN×Nat×AN×AN) w hM=>by rw[mS4 rfl rfl rfl rfl] at hM;exact hM.sub (Zh (Zh (Zh (Zh (aA _)))))) Kr (fun (γ:AN×Nat×AN×AN)=>{}) (Xy (i:=2) (fun (γ:AN×Nat×AN×AN)=>sV (Instr.indexAt 49 (.slice A_6 r8.1.length c_6) (.i 0))) (some 120) (fun (γ:AN×Nat×AN×AN)=>.pointer (some (Ix A_6 (0*3)))) (fun _=>Mr29_) Kr (fun S (γ:AN×Nat×AN×AN) w _ hM=>by rw[mS4 rfl rfl rfl rfl] at hM;exact hM.sub (Zh (Zh (Zh (Zh (aA _)))))) (fun (γ:AN×Nat×AN×AN) w hM=>Zy (hM.rd_at 0 rfl) (O3 jz) Kr (by (try have kc_:=K2 noise);(try have vp:=Je hr7);(try have kg_:=QA h4);exact sd) (by (try have kc_:=K2 noise);(try have vp:=Je hr7);(try have kg_:=QA h4);exact sd)) (fun (γ:AN×Nat×AN×AN)=>Kr) (fun (γ:AN×Nat×AN×AN)=>Kr) (Steps.run (i:=3) 4 [0] Mr29_ Kr Kr (fun S (γ:AN×Nat×AN×AN) w hM=>by rw[mS4 rfl rfl rfl rfl] at hM;exact hM.sub (Zh (Zh (Zh (Zh (aA _)))))) Kr (fun (γ:AN×Nat×AN×AN)=>{}) (Xy (i:=4) (fun (γ:AN×Nat×AN×AN)=>sV (Instr.loadAt 28 (.pointer (some ((Ix A_6 (0*3)).add 2))))) (some 122) (fun (γ:AN×Nat×AN×AN)=>.slice ((o[0]?.getD Zp.zero).Plots.A) ((r8.1[0]?.getD Zs.zero).Plots.length) ((o[0]?.getD Zp.zero).Plots.cap)) (fun _=>Mr29_) Kr (fun S (γ:AN×Nat×AN×AN) w _ hM=>by rw[mS4 rfl rfl rfl rfl] at hM;exact hM.sub (Zh (Zh (Zh (Zh (aA _)))))) (fun (γ:AN×Nat×AN×AN) w hM=>(by have h:=Z3 (P:=Tryz.prog) (T:=28) (off:=2) (i:=0) (.slice (o[0]?.getD Zp.zero).Plots.A (o[0]?.getD Zp.zero).Plots.l.length (o[0]?.getD Zp.zero).Plots.cap) (hM.rd_at 0 rfl) (ZR (getD_at _ _ Zp.zero (Ih jz (by (try have kc_:=K2 noise);(try have vp:=Je hr7);(try have kg_:=QA h4);exact sd)))) Kr Kr;have e_:(o[0]?.getD Zp.zero).Plots.l.length=(r8.1[0]?.getD Zs.zero).Plots.length:=congrArg List.length (congrArg Zs.Plots (HK (z:=Zp.zero) jz 0));rw[e_] at h;exact h)) (fun (γ:AN×Nat×AN×AN)=>Kr) (fun (γ:AN×Nat×AN×AN)=>Kr) (Steps.run (i:=5) 6 [0] Mr29_ Kr Kr (fun S (γ:AN×Nat×AN×AN) w hM=>by rw[mS4 rfl rfl rfl rfl] at hM;exact hM.sub (Zh (Zh (Zh (Zh (aA _)))))) Kr (fun (γ:AN×Nat×AN×AN)=>{}) (Xy (i:=6) (fun (γ:AN×Nat×AN×AN)=>sV (Instr.indexAt 49 (.slice A_6 r8.1.length c_6) (.i 1))) (some 124) (fun (γ:AN×Nat×AN×AN)=>.pointer (some (Ix A_6 (1*3)))) (fun _=>Mr29_) Kr (fun S (γ:AN×Nat×AN×AN) w _ hM=>by rw[mS4 rfl rfl rfl rfl] at hM;exact hM.sub (Zh (Zh (Zh (Zh (aA _)))))) (fun (γ:AN×Nat×AN×AN) w hM=>Zy (hM.rd_at 0 rfl) (O3 jz) Kr (by (try have kc_:=K2 noise);(try have vp:=Je hr7);(try have kg_:=QA h4);exact sd) (by (try have kc_:=K2 noise);(try have vp:=Je hr7);(try have kg_:=QA h4);exact sd)) (fun (γ:AN×Nat×AN×AN)=>Kr) (fun (γ:AN×Nat×AN×AN)=>Kr) (Steps.run (i:=7) 8 [0] Mr29_ Kr Kr (fun S (γ:AN×Nat×AN×AN) w hM=>by rw[mS4 rfl rfl rfl rfl] at hM;exact hM.sub (Zh (Zh (Zh (Zh (aA _)))))) Kr (fun (γ:AN×Nat×AN×AN)=>{}) (Xy (i:=8) (fun (γ:AN×Nat×AN×AN)=>sV (Instr.loadAt 28 (.pointer (some ((Ix A_6 (1*3)).add 2))))) (some 126) (fun (γ:AN×Nat×AN×AN)=>.slice ((o[1]?.getD Zp.zero).Plots.A) ((r8.1[1]?.getD Zs.zero).Plots.length) ((o[1]?.getD Zp.zero).Plots.cap)) (fun _=>Mr29_) Kr (fun S (γ:AN×Nat×AN×AN) w _ hM=>by rw[mS4 rfl rfl rfl rfl] at hM;exact hM.sub (Zh (Zh (Zh (Zh (aA _)))))) (fun (γ:AN×Nat×AN×AN) w hM=>(by have h:=Z3 (P:=Tryz.prog) (T:=28) (off:=2) (i:=1) (.slice (o[1]?.getD Zp.zero).Plots.A (o[1]?.getD Zp.zero).Plots.l.length (o[1]?.getD Zp.zero).Plots.cap) (hM.rd_at 0 rfl) (ZR (getD_at _ _ Zp.zero (Ih jz (by (try have kc_:=K2 noise);(try have vp:=Je hr7);(try have kg_:=QA h4);exact sd)))) Kr Kr;have e_:(o[1]?.getD Zp.zero).Plots.l.length=(r8.1[1]?.getD Zs.zero).Plots.length:=congrArg List.length (congrArg Zs.Plots (HK (z:=Zp.zero) jz 1));rw[e_] at h;exact h)) (fun (γ:AN×Nat×AN×AN)=>Kr) (fun (γ:AN×Nat×AN×AN)=>Kr) (Steps.op (i:=9) (Γ:=Nat) (fun g (γ:AN×Nat×AN×AN)=>(γ.1,g,γ.2.2.1,γ.2.2.2)) (fun _=>[]) (fun b (γ:AN×Nat×AN×AN)=>[Bk b #[.slice ((o[0]?.getD Zp.zero).Plots.A) ((r8.1[0]?.getD Zs.zero).Plots.length) ((o[0]?.getD Zp.zero).Plots.cap),.slice ((o[1]?.getD Zp.zero).Plots.A) ((r8.1[1]?.getD Zs.zero).Plots.length) ((o[1]?.getD Zp.zero).Plots.cap)] 28]) (fun S (γ:AN×Nat×AN×AN)=>(bif S 0 then [Ow (γ.1.1) (γ.1.2) 34 6 (r9.map Zl.c)] else [])++((bif S 10 then [Ow (γ.2.2.1.1) (γ.2.2.1.2) 40 6 (r10.map Zr.c)] else [])++((bif S 11 then [Ow (γ.2.2.2.1) (γ.2.2.2.2) 46 6 (r11.1.map Zm.c)] else [])++(Mr29_)))) [9,10,11,12,13,14,15,16] (fun (γ:AN×Nat×AN×AN)=>sV (Instr.buildSlice 92 2 #[(0,.slice ((o[0]?.getD Zp.zero).Plots.A) ((r8.1[0]?.getD Zs.zero).Plots.length) ((o[0]?.getD Zp.zero).Plots.cap)),(1,.slice ((o[1]?.getD Zp.zero).Plots.A) ((r8.1[1]?.getD Zs.zero).Plots.length) ((o[1]?.getD Zp.zero).Plots.cap))])) (some 127) (fun b (γ:AN×Nat×AN×AN)=>.slice (Pa b) 2 2) (fun S (γ:AN×Nat×AN×AN) hj hd hl=>by rw[mS4 rfl hj rfl rfl];exact(aB _ (aC _)).trans (ZP _ _ _)) (fun S (γ:AN×Nat×AN×AN) g _=>((aB _ (aC _)).trans (ZP _ _ _)).symm) (fun (γ:AN×Nat×AN×AN) M' w hM=>Jd (v:=fun b=>.slice (Pa b) 2 2) (fun b M=>Kr) M' w hM) (fun (γ:AN×Nat×AN×AN)=>Kr) (fun (γ:AN×Nat×AN×AN) g=>Kr) Kr (fun (γ:AN×Nat×AN×AN) g=>Kr) (GL (i:=10) (Γ:=AN) (fun g (γ:AN×Nat×AN×AN)=>(γ.1,γ.2.1,g,γ.2.2.2)) 13 (fun (γ:AN×Nat×AN×AN)=>#[.slice (Pa γ.2.1) 2 2]) (fun (γ:AN×Nat×AN×AN)=>[Bk γ.2.1 #[.slice ((o[0]?.getD Zp.zero).Plots.A) ((r8.1[0]?.getD Zs.zero).Plots.length) ((o[0]?.getD Zp.zero).Plots.cap),.slice ((o[1]?.getD Zp.zero).Plots.A) ((r8.1[1]?.getD Zs.zero).Plots.length) ((o[1]?.getD Zp.zero).Plots.cap)] 28,Ow A_6 c_6 36 3 (o.map Zp.c),.inr (Bag 40 6 Zr.c (o.map Zp.Plots)),Ow A_want_2 xf 40 6 (x4.map Zr.c),Ow A c 38 6 (r1.map Zw.c)]) (fun g (γ:AN×Nat×AN×AN)=>[Ow (g.1) (g.2) 40 6 (r10.map Zr.c)]) [10,11,12,13,14,15,16] (some 128) (fun g (γ:AN×Nat×AN×AN)=>.slice (g.1) r10.length (g.2)) (fun S (γ:AN×Nat×AN×AN) w hd hM=>by rw[mS4 rfl rfl rfl rfl] at hM;exact hM.sub (Zh (BJ (by rw[hd 9 Kr];rfl) (Zh (Zh (aA _)))))) (fun S (γ:AN×Nat×AN×AN) g hj _=>by rw[mS4 rfl rfl hj rfl];exact((aB _ ((aB _ (aC _)).trans (ZP _ _ _))).trans (ZP _ _ _)).symm) (fun (γ:AN×Nat×AN×AN) w hM=>by have h:=KY (Pa γ.2.1) 2 ([(r8.1[0]?.getD Zs.zero).Plots,(r8.1[1]?.getD Zs.zero).Plots]) ([(⟨(o[0]?.getD Zp.zero).Plots.A,(o[0]?.getD Zp.zero).Plots.cap,(r8.1[0]?.getD Zs.zero).Plots⟩:Sl Zr),(⟨(o[1]?.getD Zp.zero).Plots.A,(o[1]?.getD Zp.zero).Plots.cap,(r8.1[1]?.getD Zs.zero).Plots⟩:Sl Zr)]) w (Rd.lit hM 0 _ rfl Kr Kr Kr) (aR _) (all_cons ⟨(KT (s:=(o[0]?.getD Zp.zero).Plots) (NU (S:=Zp.Plots) (z:=Zp.zero) rfl (hM.bag_at 2 rfl) 0) (congrArg Zs.Plots (HK (z:=Zp.zero) jz 0))),(EY (s:=(o[0]?.getD Zp.zero).Plots) (NU (S:=Zp.Plots) (z:=Zp.zero) rfl (hM.bag_at 2 rfl) 0) (congrArg Zs.Plots (HK (z:=Zp.zero) jz 0)))⟩ (all_cons ⟨(KT (s:=(o[1]?.getD Zp.zero).Plots) (NU (S:=Zp.Plots) (z:=Zp.zero) rfl (hM.bag_at 2 rfl) 1) (congrArg Zs.Plots (HK (z:=Zp.zero) jz 1))),(EY (s:=(o[1]?.getD Zp.zero).Plots) (NU (S:=Zp.Plots) (z:=Zp.zero) rfl (hM.bag_at 2 rfl) 1) (congrArg Zs.Plots (HK (z:=Zp.zero) jz 1)))⟩ OW)) (CE rfl (CE rfl rfl)) (IR (LJ hr8 _) (LJ hr8 _));rw[zl] at h;exact h) (fun (γ:AN×Nat×AN×AN)=>Kr) (fun (γ:AN×Nat×AN×AN) g=>Kr) Kr (fun (γ:AN×Nat×AN×AN) g=>Kr) (GL (i:=11) (Γ:=AN) (fun g (γ:AN×Nat×AN×AN)=>(γ.1,γ.2.1,γ.2.2.1,g)) 12 (fun (γ:AN×Nat×AN×AN)=>#[.slice (γ.1.1) r9.length (γ.1.2),.slice (γ.2.2.1.1) r10.length (γ.2.2.1.2)]) (fun (γ:AN×Nat×AN×AN)=>[Ow (γ.1.1) (γ.1.2) 34 6 (r9.map Zl.c),Ow (γ.2.2.1.1) (γ.2.2.1.2) 40 6 (r10.map Zr.c),Ow A_6 c_6 36 3 (o.map Zp.c),.inr (Bag 40 6 Zr.c (o.map Zp.Plots)),Ow A_want_2 xf 40 6 (x4.map Zr.c),Ow A c 38 6 (r1.map Zw.c)]) (fun g (γ:AN×Nat×AN×AN)=>[Ow (g.1) (g.2) 46 6 (r11.1.map Zm.c)]) [11,12,13,14,15,16] (some 129) (fun g (γ:AN×Nat×AN×AN)=>.tuple #[.slice (g.1) r11.1.length (g.2),.i r11.2]) (fun S (γ:AN×Nat×AN×AN) w hd hM=>by rw[mS4 rfl rfl rfl rfl] at hM;exact hM.sub (BJ (by rw[hd 0 Kr];rfl) (Zh (BJ (by rw[hd 10 Kr];rfl) (Zh (aA _)))))) (fun S (γ:AN×Nat×AN×AN) g hj _=>by rw[mS4 rfl rfl rfl hj];exact((aB _ ((aB _ ((aB _ (aC _)).trans (ZP _ _ _))).trans (ZP _ _ _))).trans (ZP _ _ _)).symm) (fun (γ:AN×Nat×AN×AN) w hM=>by have h:=G5 (γ.1.1) (γ.1.2) r9 (γ.2.2.1.1) (γ.2.2.1.2) r10 w (hM.rd_at 0 rfl) (hM.le_at 0 rfl) (hM.rd_at 1 rfl) (hM.le_at 1 rfl) (hT.sat hM);rw[zo] at h;exact h) (fun (γ:AN×Nat×AN×AN)=>Kr) (fun (γ:AN×Nat×AN×AN) g=>Kr) Kr (fun (γ:AN×Nat×AN×AN) g=>Kr) (Steps.run (i:=12) 17 [0,0,0,0,0] Mr29_ Kr Kr (fun S (γ:AN×Nat×AN×AN) w hM=>by rw[mS4 rfl rfl rfl rfl] at hM;exact hM.sub (Zh (Zh (Zh (Zh (aA _)))))) Kr (fun (γ:AN×Nat×AN×AN)=>{}) (XH Kr)))))))))))))
     ·rintro⟨⟨A_7,c_7⟩,b6,⟨A_8,c_8⟩,⟨A_9,c_9⟩⟩
      refine Yp [Ow A_7 c_7 34 6 (r9.map Zl.c),Bk b6 #[.slice ((o[0]?.getD Zp.zero).Plots.A) ((r8.1[0]?.getD Zs.zero).Plots.length) ((o[0]?.getD Zp.zero).Plots.cap),.slice ((o[1]?.getD Zp.zero).Plots.A) ((r8.1[1]?.getD Zs.zero).Plots.length) ((o[1]?.getD Zp.zero).Plots.cap)] 28,Ow A_8 c_8 40 6 (r10.map Zr.c),Ow A_9 c_9 46 6 (r11.1.map Zm.c),Ow A_6 c_6 36 3 (o.map Zp.c),.inr (Bag 40 6 Zr.c (o.map Zp.Plots)),Ow A_want_2 xf 40 6 (x4.map Zr.c),Ow A c 38 6 (r1.map Zw.c)] (fun _ hM=>hM) (YZ (UR (Γ:=AN) 133 (Xi) (fun r12 g=>.slice g.1 r12.length g.2) (fun r12 g=>[Ow g.1 g.2 34 6 (r12.map Zl.c)]) (fun w _=>KC w) {} (fun r12 z8=>?_)))
      rintro⟨A_10,fx⟩
      refine Y2 (fun w hM=>hM.short_at 0 rfl) (fun bf=>Zc 2 [] [(134,.slice A_want_2 x4.length xf)] {} (UR (Γ:=AN) 135 (Xr r12 x4) (fun r13 g=>.tuple #[.slice g.1 r13.1.length g.2,.i r13.2]) (fun r13 g=>[Ow g.1 g.2 46 6 (r13.1.map Zm.c)]) (fun w hM=>G5 A_10 fx r12 A_want_2 xf x4 w (hM.rd_at 0 rfl) (hM.le_at 0 rfl) (hM.rd_at 7 rfl) (hM.le_at 7 rfl) (hT.sat hM)) {} (fun r13 xa=>?_)))
      rintro⟨A_11,wc⟩
      refine Y2 (fun w hM=>hM.short_at 0 rfl) (fun bg=>Zc 8 [] [(23,.slice A_11 r13.1.length wc),(24,.i r13.2)] {} (Zv (Zc 1 [] [(139,.slice A_9 r11.1.length c_9)] {} (UR (Γ:=AN) 140 (YA r11.1 500) (fun r14 g=>.tuple #[.slice g.1 r14.1.length g.2,.i r14.2]) (fun r14 g=>[Ow g.1 g.2 46 6 (r14.1.map Zm.c)]) (fun w hM=>Hi A_9 c_9 r11.1 500 w (hM.rd_at 5 rfl) (hM.le_at 5 rfl)) {} (fun r14 kv=>?_)))))
      rintro⟨A_12,dw⟩
      refine Y2 (fun w hM=>hM.short_at 0 rfl) (fun bh=>Zc 7 [] [(25,.slice A_12 r14.1.length dw),(26,.i r14.2)] {} (Zv (Zc 3 [] [(145,.b (r11.2==0))] {} (XT 145 (r11.2==0) 6 [] [] (fun β=>[(148,.b (β&&(r13.2==0)))]) Kr {} {} (Zc 7 [] [(149,.b ((r11.2==0)&&(r13.2==0)))] {} (XT 149 ((r11.2==0)&&(r13.2==0)) 10 [] [] (fun β=>[(152,.b (β&&(r14.2==0)))]) Kr {} {} (Zc 11 [] [(153,.b (((r11.2==0)&&(r13.2==0))&&(r14.2==0)))] {} (Yo 153 (((r11.2==0)&&(r13.2==0))&&(r14.2==0)) Kr (fun h8=>?_) (fun h8=>?_)))))))))
      ·exact Zc 13 [] [(154,.slice A_9 r11.1.length c_9),(155,.slice A_11 r13.1.length wc)] {} (TL.c 156 (Y1 r11.1 r13.1) (fun r15=>.b r15) (fun w hM=>Vk A_9 c_9 r11.1 A_11 wc r13.1 w (hM.rd_at 6 rfl) (hM.le_at 6 rfl) (hM.rd_at 1 rfl) (hM.le_at 1 rfl)) {} (fun r15 gq=>Zc 16 [] [(158,.b r15)] {} (XT 158 r15 22 [] [] (fun β=>[(164,.b (β&&((r14.1.length:Int)==(r1.length:Int))))]) Kr {} {} (Zc 23 [] [(4,.b (r15&&((r14.1.length:Int)==(r1.length:Int))))] {} (Zb rfl (TC.ret (TE.ret [] (.b (r15&&((r14.1.length:Int)==(r1.length:Int)))) {} (by unfold X3;refine eS (fun z=>(.b z:Value)) ?_;subst hr1 hr2 hr3 hr4 hr8 hr9 zl zo z8 xa kv gq;exact Zd h1 (Zd h2 (Q2 (hR.symm.trans hJ) (Zd h7 (Zk h8 (rfl)))))))))))))
      ·exact Zc 23 [] [(4,.b false)] {} (Zb rfl (TC.ret (TE.ret [] (.b false) {} (by unfold X3;refine eS (fun z=>(.b z:Value)) ?_;subst hr1 hr2 hr3 hr4 hr8 hr9 zl zo z8 xa kv;exact Zd h1 (Zd h2 (Q2 (hR.symm.trans hJ) (Zd h7 (Zd h8 (rfl)))))))))
end Go.Sky
end
