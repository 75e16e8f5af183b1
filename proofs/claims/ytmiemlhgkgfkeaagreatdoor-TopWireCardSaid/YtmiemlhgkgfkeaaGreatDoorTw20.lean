/- Proves the given statement of this seat that YtmiemlhgkgfkeaaGreatDoorRowTopWire names, from the texts before it; no condition is added. -/
import Derived.Test.YtmiemlhgkgfkeaaGreatDoorTw19
import Derived.Test.YtmiemlhgkgfkeaaGreatDoorTw02
import Derived.Test.YtmiemlhgkgfkeaaGreatDoorTw10
import Derived.Test.YtmiemlhgkgfkeaaGreatDoorTw03
import Derived.Test.YtmiemlhgkgfkeaaGreatDoorTw12
import Derived.Test.YtmiemlhgkgfkeaaGreatDoorTw15
import Derived.Test.YtmiemlhgkgfkeaaGreatDoorTw11
import Derived.Test.YtmiemlhgkgfkeaaGreatDoorTw17
import Derived.ChangeMaps5
import Derived.Test.YtmiemlhgkgfkeaaGreatDoorTw04
import Derived.Lib.LaidTab
import Derived.LaidMore
import Derived.LaidLaws
import Derived.MakeChecks
import Derived.LaidHandle
import Derived.OpenShut
import Derived.Test.YtmiemlhgkgfkeaaGreatDoorRows
import Derived.Test.YtmiemlhgkgfkeaaGreatDoorTie
import Derived.Test.YtmiemlhgkgfkeaaGreatDoorCards
set_option maxRecDepth 100000
section
namespace Go.Sky
open Go Go.Eng
theorem EJ (s:ByteArray) (l:List Int) (n:Nat) (hn:n≤s.size) (hl:l.length=n) (h:∀ i,i<n→bat s i=bat (strOf l) i):QR (s.extract 0 n)=QR (strOf l):=by
 have e1:(s.extract 0 n).size=n:=by rw[ByteArray.size_extract];omega
 have e2:(strOf l).size=n:=by rw[ZS,hl]
 have gen:∀ (m k:Nat) (a b:Int),k+m≤n→Ji (s.extract 0 n) m k a b=Ji (strOf l) m k a b:=by
  intro m
  induction m with
  | zero=>intro k a b _;rfl
  | succ m ih =>
   intro k a b hk
   unfold Ji
   rw[G9 s 0 n k (by omega) hn,bB,h k (by omega),ih (k+1) _ _ (by omega)]
 unfold QR
 rw[e1,e2,gen n 0 0 0 (by omega)]
structure Whole (f:Zs) (l:List Int) (t p q:Nat):Prop where
 check:Xm f=0
 enc:YF f=(strOf l,0)
 tt:f.Time=(t:Int)
 pp:f.Plots.length=p
 p1:p≤32
 shape:l=(([83,87]:List Int)++be f.Radar 1)++(be (t:Int) 4++(be (p:Int) 2++((f.Plots.map pb).flatten++be (q:Int) 2)))
 qq:(q:Int)=QR (strOf ((([83,87]:List Int)++be f.Radar 1)++(be (t:Int) 4++(be (p:Int) 2++(f.Plots.map pb).flatten))))
 q1:q<65536
 inn:∀ x∈l,0≤x∧x≤255
 len:l.length=11+16*p
theorem UQ (xs:List Zr):((xs.map pb).flatten).length=16*xs.length:=by
 induction xs with
 | nil=>rfl
 | cons x xs ih=>rw[dR,List.flatten_cons,aI,Sr,ih,aG];omega
theorem O8 {f:Zs} (h2:((YF f).2 != 0)=false):∃ l t q,Whole f l t f.Plots.length q:=by
 rcases GZ f with ⟨e,h,he,_⟩|⟨hc,hl,h⟩
 ·rw[h] at h2;exact absurd (by simpa using h2) he
 ·obtain⟨⟨r0,r1⟩,⟨t0,t1⟩,_⟩:=HJ hc
  obtain⟨t,ht⟩:∃ t:Nat,f.Time=(t:Int):=⟨f.Time.toNat,by omega⟩
  obtain⟨b,es,hb0,hb1⟩:=H5 (strOf (body f))
  obtain⟨q,hq⟩:∃ q:Nat,QR (strOf (body f))=(q:Int):=⟨(QR (strOf (body f))).toNat,by omega⟩
  have su:body f=(([83,87]:List Int)++be f.Radar 1)++(be (t:Int) 4++(be (f.Plots.length:Int) 2++(f.Plots.map pb).flatten)):=by
   unfold body
   rw[D7,ht,JK (x:=f.Radar) (by omega),JK (x:=(t:Int)) (by omega),JK (x:=(f.Plots.length:Int)) (by omega)]
   simp only[aT]
  have hw:Z0 (q:Int)=(q:Int):=JK (by omega)
  refine⟨body f++be (q:Int) 2,t,q,hc,by rw[h,hq,hw],ht,rfl,hl,?_,?_,by omega,GA (EF f) (Hn _ _),?_⟩
  ·rw[su];simp only[aT]
  ·rw[← su,hq]
  ·rw[aI,Y8,LF];omega
theorem IU (s:ByteArray) (l:List Int) (c:Nat) (h:∀ i,i<c→bat s i=l[i]?.getD 0) {f:Zs} {t p q:Nat} (w:Whole f l t p q) (hs:c≤s.size):(0<c→bat s 0=83)∧(1<c→bat s 1=87)∧(7≤c→Yq (s.extract 3 7)=(t:Int))∧(9≤c→Yq (s.extract 7 9)=(p:Int)):=by
 have ht:=(HJ w.check).2.1
 rw[w.tt] at ht
 refine⟨fun hc=>?_,fun hc=>?_,fun hc=>?_,fun hc=>?_⟩
 ·rw[h 0 hc,w.shape];rfl
 ·rw[h 1 hc,w.shape];rfl
 ·have:=Ui (s:=s) (base:=0) (tot_:=c) (([83,87]:List Int)++be f.Radar 1) (be (p:Int) 2++((f.Plots.map pb).flatten++be (q:Int) 2)) (n:=t) (m:=4) (fun i hi=>by rw[bB,h i hi,w.shape]) (by simp only[aI,Y8,aG,bJ];omega)
   (by simp only[aI,Y8,aG,bJ];omega) (by decide) (by show t<4294967296;omega)
  simpa[Y8] using this
 ·have:=Ui (s:=s) (base:=0) (tot_:=c) ((([83,87]:List Int)++be f.Radar 1)++be (t:Int) 4) ((f.Plots.map pb).flatten++be (q:Int) 2) (n:=p) (m:=2) (fun i hi=>by rw[bB,h i hi,w.shape];simp only[aT]) (by simp only[aI,Y8,aG,bJ];omega)
   (by simp only[aI,Y8,aG,bJ];omega) (by decide) (by show p<65536;have:=w.p1;omega)
  simpa[Y8] using this
theorem O9 (s more:ByteArray):(s++more).extract 0 s.size=s:=by
 apply ByteArray.ext
 rw[ByteArray.data_extract,ByteArray.data_append]
 apply Array.ext_getElem?
 intro i
 rw[Array.getElem?_extract]
 have hz:s.data.size=s.size:=rfl
 have hz2:(s.data++more.data).size=s.size+more.size:=by rw[Array.size_append];rfl
 rcases dP i s.size with h|h
 ·rw[if_pos (by omega),bB,dT (by omega)]
 ·rw[if_neg (by omega),dA (by omega)]
theorem LK (s:ByteArray):seq s s=true:=by unfold seq;simp
theorem OA {f:Zs} {l:List Int} {t p q:Nat} (w:Whole f l t p q) (more:ByteArray):ZE (strOf l++more)=(f,11+16*(p:Int),0):=by
 have hp1:=w.p1
 have hlen:=w.len
 have hsz:(strOf l).size=11+16*p:=by rw[ZS,hlen]
 have hb:∀ i,i<11+16*p→bat (strOf l++more) i=l[i]?.getD 0:=fun i hi=>by rw[Gt (by omega),FG l i w.inn]
 have hD:(strOf l++more).size=11+16*p+more.size:=by rw[ByteArray.size_append,hsz]
 obtain⟨c0,c1,c2,c3⟩:=IU (strOf l++more) l (11+16*p) hb w (by omega)
 obtain⟨⟨r0,r1⟩,⟨t0,t1⟩,hpl⟩:=HJ w.check
 have td:=O9 (strOf l) more
 rw[hsz] at td
 generalize strOf l++more=s at hb hD c0 c1 c2 c3 td
 have c2:=c2 (by omega)
 have c3:=c3 (by omega)
 have cw:w64 (bat s 2)=f.Radar:=by
  have e1:be f.Radar 1=[wu8 (f.Radar.fdiv (2 ^ (min (8*0) 64)))]:=rfl
  rw[hb 2 (by omega),w.shape,e1]
  show w64 (wu8 (f.Radar.fdiv 1))=_
  rw[Int.fdiv_one,show wu8 f.Radar=f.Radar%256 from IntKind.wrap_u8 _,Zu (by omega)];omega
 have sv:w64 (Yq (s.extract 3 7))=f.Time:=by rw[c2,w.tt,Zu (by have:=w.tt;omega)]
 have hfr:(⟨w64 (bat s 2),w64 (Yq (s.extract 3 7)),f.Plots⟩:Zs)=f:=by rw[cw,sv]
 have au:Dec s (p:Int) f.Plots:=by
  refine⟨by omega,by omega,c3,by rw[c2,← w.tt];exact t1,c0 (by omega),c1 (by omega),by omega,?_,?_,?_,?_⟩
  ·rw[show (9+16*(p:Int)).toNat=9+16*p by omega,show (11+16*(p:Int)).toNat=11+16*p by omega]
   have av:=EJ s ((([83,87]:List Int)++be f.Radar 1)++(be (t:Int) 4++(be (p:Int) 2++(f.Plots.map pb).flatten))) (9+16*p) (by omega)
    (by simp only[aI,Y8,aG,bJ,UQ,w.pp];omega) (fun i hi=>by
     rw[hb i (by omega),FG _ i (fun x hx=>w.inn x (by
      rw[w.shape]
      simp only[aT,bD] at hx ⊢
      rcases hx with h|h|h|h|h
      ·exact .inl h
      ·exact .inr (.inl h)
      ·exact .inr (.inr (.inl h))
      ·exact .inr (.inr (.inr (.inl h)))
      ·exact .inr (.inr (.inr (.inr (.inl h)))))),w.shape]
     have e:(([83,87]:List Int)++be f.Radar 1)++(be (t:Int) 4++(be (p:Int) 2++((f.Plots.map pb).flatten++be (q:Int) 2)))=((([83,87]:List Int)++be f.Radar 1)++(be (t:Int) 4++(be (p:Int) 2++(f.Plots.map pb).flatten)))++be (q:Int) 2:=by simp only[aT]
     rw[e,cA (by simp only[aI,Y8,aG,bJ,UQ,w.pp];omega)])
   rw[av,← w.qq,JK (by have:=w.q1;omega)]
   have g:=Ui (s:=s) (base:=0) (tot_:=11+16*p) ((([83,87]:List Int)++be f.Radar 1)++(be (t:Int) 4++(be (p:Int) 2++(f.Plots.map pb).flatten))) [] (n:=q) (m:=2) (fun i hi=>by rw[bB,hb i hi,w.shape];simp only[aT,bS])
    (by simp only[aI,Y8,aG,bJ,UQ,w.pp];omega) (by simp only[aI,Y8,aG,bJ,UQ,w.pp];omega) (by decide) (by show q<65536;exact w.q1)
   simp only[aI,Y8,aG,bJ,UQ,w.pp] at g
   rw[show 0+(0+1+1+1+(4+(2+16*p)))=9+16*p by omega,show 9+16*p+2=11+16*p by omega] at g
   exact g
  ·have hr:=FI s (Yq (s.extract 3 7)) f.Plots 0 [] (fun x hx=>by
    obtain⟨h1,h2,h3⟩:=hpl x hx
    exact⟨h3,by rw[h1,cw],by rw[h2,sv]⟩) (by have:=w.pp;omega) (by have:=w.pp;omega) (fun i hi=>by
    rw[w.pp] at hi
    rw[show 9+16*0+i=9+i by omega,hb (9+i) (by omega),w.shape]
    have e:(([83,87]:List Int)++be f.Radar 1)++(be (t:Int) 4++(be (p:Int) 2++((f.Plots.map pb).flatten++be (q:Int) 2)))=((([83,87]:List Int)++be f.Radar 1)++(be (t:Int) 4++be (p:Int) 2))++((f.Plots.map pb).flatten++be (q:Int) 2):=by simp only[aT]
    have hA:(((([83,87]:List Int)++be f.Radar 1)++(be (t:Int) 4++be (p:Int) 2))).length=9:=by simp only[aI,Y8,aG,bJ]
    rw[e,dB (by omega),hA,Nat.add_sub_cancel_left,cA (by rw[UQ,w.pp];exact hi)])
   rw[w.pp] at hr
   rw[show ((p:Int)).toNat=p by omega]
   simpa using hr
  ·rw[hfr,w.enc]
  ·rw[hfr,w.enc,show (11+16*(p:Int)).toNat=11+16*p by omega,td]
   exact LK _
 rw[IQ au,hfr]
end Go.Sky
end
section
namespace Go.Sky
open Go Go.Eng
theorem D9 (s t:ByteArray):(s++t).extract s.size (s++t).size=t:=by
 apply ByteArray.ext
 rw[ByteArray.data_extract,ByteArray.data_append]
 apply Array.ext_getElem?
 intro i
 rw[Array.getElem?_extract]
 have hz:s.data.size=s.size:=rfl
 have hz2:(s.data++t.data).size=s.size+t.size:=by rw[Array.size_append];rfl
 have hz3:(s++t).size=s.size+t.size:=ByteArray.size_append
 have hz4:t.data.size=t.size:=rfl
 rcases dP i t.size with h|h
 ·rw[if_pos (by omega),Array.getElem?_append_right (by omega)]
  congr 1
  omega
 ·rw[if_neg (by omega),dA (by omega)]
theorem EK (s:ByteArray) (a:Nat):(s.extract a s.size).extract 1 (s.extract a s.size).size=s.extract (a+1) s.size:=by
 apply ByteArray.ext
 rw[ByteArray.size_extract,ByteArray.data_extract,ByteArray.data_extract,ByteArray.data_extract,Array.extract_extract]
 congr 1
 omega
structure Par (s:ByteArray) (n:Nat) (fs:List Zs):Prop where
 run:∀ (t:ByteArray) (m:Nat) (out:List Zs) (lost:Nat),lost+n≤1000000→YN (n+fs.length+m) (s++t) out (lost:Int)=YN m t (out++fs) ((lost+n:Nat):Int)
 len:n+fs.length≤s.size
theorem Par.nil:Par ⟨#[]⟩ 0 []:=⟨fun t m out lost _=>by
 have e:(⟨#[]⟩:ByteArray)++t=t:=by
  apply ByteArray.ext
  rw[ByteArray.data_append]
  exact Array.empty_append
 rw[e,bS,bI]
 show YN (0+0+m) _ _ _=_
 rw[bI,bB],aR _⟩
theorem Par.app {s s':ByteArray} {n n':Nat} {fs fs':List Zs} (h1:Par s n fs) (h2:Par s' n' fs'):Par (s++s') (n+n') (fs++fs'):=by
 refine⟨fun t m out lost hl=>?_,?_⟩
 ·rw[ByteArray.append_assoc,show n+n'+(fs++fs').length+m=n+fs.length+(n'+fs'.length+m) by rw[aI];omega,h1.run _ _ _ _ (by omega),h2.run _ _ _ _ (by omega),aT,eV]
 ·have:=h1.len
  have:=h2.len
  rw[aI,ByteArray.size_append]
  omega
theorem Par.frame {f:Zs} {l:List Int} {t p q:Nat} (w:Whole f l t p q):Par (strOf l) 0 [f]:=by
 have hsz:(strOf l).size=11+16*p:=by rw[ZS,w.len]
 refine⟨fun t m out lost _=>?_,by rw[hsz];show 0+1≤_;omega⟩
 rw[show 0 + [f].length+m=m+1 by show 0+1+m=_;omega]
 conv=>lhs;unfold YN
 simp only
 rw[OA w t]
 simp only
 rw[show ((0:Int)==0)=true from rfl,cond_true,show (11+16*(p:Int)).toNat=(strOf l).size by rw[hsz];omega,D9]
 rfl
theorem Su {u:ByteArray} (h0:0<u.size) (h:bat u 0≠83):(ZE u).2.2=3:=by
 unfold ZE
 rw[decide_eq_true (show (u.size:Int)>0 by omega),cond_true,show (bat u 0 != 83)=true by simpa using h,cond_true]
theorem Par.noise {x:ByteArray} (h:∀ i,i<x.size→bat x i≠83):Par x x.size []:=by
 refine⟨fun t m out lost hl=>?_,aR _⟩
 have key:∀ j,j≤x.size→YN (j+m) ((x++t).extract (x.size-j) (x++t).size) out ((lost+(x.size-j):Nat):Int)=YN m t out ((lost+x.size:Nat):Int):=by
  intro j
  induction j with
  | zero=>intro _;rw[bB,Nat.sub_zero,D9]
  | succ j ih =>
   intro hj
   have hz:(x++t).size=x.size+t.size:=ByteArray.size_append
   have hu:0<((x++t).extract (x.size-(j+1)) (x++t).size).size:=by rw[ByteArray.size_extract];omega
   have hb:bat ((x++t).extract (x.size-(j+1)) (x++t).size) 0≠83:=by
    rw[G9 _ _ _ 0 (by omega) (aR _),bI,Gt (by omega)]
    exact h _ (by omega)
   rw[show j+1+m=(j+m)+1 by omega]
   conv=>lhs;unfold YN
   simp only
   rw[Su hu hb,show ((3:Int)==0)=false from rfl,cond_false,show ((3:Int)==8)=false from rfl,cond_false,EK,Zu (by omega),← ih (by omega),
    show x.size-(j+1)+1=x.size-j by omega,show ((lost+(x.size-(j+1)):Nat):Int)+1=((lost+(x.size-j):Nat):Int) by omega]
 have:=key x.size (aR _)
 rw[Nat.sub_self,bI] at this
 have e:(x++t).extract 0 (x++t).size=x++t:=by
  have:=D9 ⟨#[]⟩ (x++t)
  have e0:(⟨#[]⟩:ByteArray)++(x++t)=x++t:=by
   apply ByteArray.ext
   rw[ByteArray.data_append]
   exact Array.empty_append
  rw[e0] at this
  exact this
 rw[e] at this
 rw[bS]
 show YN (x.size+0+m) _ _ _=_
 rw[bI]
 exact this
end Go.Sky
end
section
namespace Go.Sky
open Go Go.Eng
def AW (k:Nat):Bool:=decide (268412285≤sn k*sn k+cs k*cs k)&&decide (sn k*sn k+cs k*cs k≤268458627) &&
 decide ((sn k-sn (k+1))*(sn k-sn (k+1))+(cs k-cs (k+1))*(cs k-cs (k+1))≤729)
def DC (k j:Nat):Bool:=decide (423801*((sn k-sn (k+j))*(sn k-sn (k+j))+(cs k-cs (k+j))*(cs k-cs (k+j)))≤(16384*((j:Int)+1)-10416)*(16384*((j:Int)+1)-10416))
def HM (f:Nat→Bool) (a:Nat):Nat→Bool
 | 0=>true
 | n+1=>f a&&HM f (a+1) n
theorem Sv (f:Nat→Bool) (a n:Nat):HM f a (n+1)=(f a&&HM f (a+1) n):=rfl
theorem VP (f:Nat→Bool) (n:Nat):∀ a,HM f a n=true→∀ k,a≤k→k<a+n→f k=true:=by
 induction n with
 | zero=>intro a _ k h1 h2;omega
 | succ n ih =>
  intro a h k h1 h2
  rw[Sv,aW] at h
  by_cases he:a=k
  ·rw[← he];exact h.1
  ·exact ih (a+1) h.2 k (by omega) (by omega)
set_option maxRecDepth 100000
theorem IV:HM AW 0 1024=true:=by kernel_rfl
theorem EL:HM (fun k=>HM (DC k) 0 100) 0 256=true:=by kernel_rfl
theorem EM:HM (fun k=>HM (DC k) 0 100) 256 256=true:=by kernel_rfl
theorem EN:HM (fun k=>HM (DC k) 0 100) 512 256=true:=by kernel_rfl
theorem EO:HM (fun k=>HM (DC k) 0 100) 768 256=true:=by kernel_rfl
end Go.Sky
end
section
namespace Go.Sky
open Go Go.Eng
theorem KV (x:Int):0≤x*x:=by
 rcases fB 0 x with g|g
 ·exact aY g g
 ·rw[← cN];exact aY (by omega) (by omega)
theorem KB {x y:Int} (h0:0≤x) (h:x≤y):x*x≤y*y:=bX h h h0 (by omega)
theorem LL {x y:Int} (h1:-y≤x) (h2:x≤y):x*x≤y*y:=by
 rcases fB 0 x with g|g
 ·exact KB g h2
 ·rw[← cN];exact KB (by omega) (by omega)
theorem Td {x y:Int} (hy:0≤y) (h:x*x≤y*y):-y≤x∧x≤y:=by
 constructor
 ·rcases dI x (-y) with g|g
  ·exfalso
   have:=KB (x:=y+1) (y:=-x) (by omega) (by omega)
   rw[cN] at this
   have e:(y+1)*(y+1)=y*y+2*y+1:=by grind
   omega
  ·exact g
 ·rcases dI y x with g|g
  ·exfalso
   have:=KB (x:=y+1) (y:=x) (by omega) (by omega)
   have e:(y+1)*(y+1)=y*y+2*y+1:=by grind
   omega
  ·exact g
theorem tri {a b c d R S:Int} (hR:0≤R) (hS:0≤S) (h1:a*a+b*b≤R*R) (h2:c*c+d*d≤S*S):(a+c)*(a+c)+(b+d)*(b+d)≤(R+S)*(R+S):=by
 have hRS:0≤R*S:=aY hR hS
 have e1:(a*c+b*d)*(a*c+b*d)+(a*d-b*c)*(a*d-b*c)=(a*a+b*b)*(c*c+d*d):=by grind
 have e2:=KV (a*d-b*c)
 have e3:(a*a+b*b)*(c*c+d*d)≤(R*R)*(S*S):=bX h1 h2 (by have:=KV c;have:=KV d;omega) (KV R)
 have e4:(R*R)*(S*S)=(R*S)*(R*S):=by grind
 have key:=(Td hRS (x:=a*c+b*d) (by omega)).2
 have e7:(a+c)*(a+c)+(b+d)*(b+d)=(a*a+b*b)+(c*c+d*d)+2*(a*c+b*d):=by grind
 have e8:(R+S)*(R+S)=R*R+S*S+2*(R*S):=by grind
 omega
theorem OB {a b R m:Int} (hm:0<m) (h:(m*a)*(m*a)+(m*b)*(m*b)≤(m*R)*(m*R)):a*a+b*b≤R*R:=by
 have e1:(m*a)*(m*a)+(m*b)*(m*b)=(m*m)*(a*a+b*b):=by grind
 have e2:(m*R)*(m*R)=(m*m)*(R*R):=by grind
 rw[e1,e2] at h
 exact gC h (gP hm hm)
theorem DF {a b R m:Int} (hR:a*a+b*b≤R*R):(m*a)*(m*a)+(m*b)*(m*b)≤(m*R)*(m*R):=by
 have e1:(m*a)*(m*a)+(m*b)*(m*b)=(m*m)*(a*a+b*b):=by grind
 have e2:(m*R)*(m*R)=(m*m)*(R*R):=by grind
 rw[e1,e2]
 exact dM hR (KV m)
theorem Ba {Q:Nat→Prop} (h1:∀ k,k<1024→Q k) (h2:∀ k,Q k→Q (k+1024)):∀ k,Q k:=by
 have key:∀ q i,i<1024→Q (i+1024*q):=by
  intro q
  induction q with
  | zero=>intro i hi;exact h1 i hi
  | succ q ih =>
   intro i hi
   rw[show i+1024*(q+1)=i+1024*q+1024 by omega]
   exact h2 _ (ih i hi)
 intro k
 have:=key (k/1024) (k%1024) (by omega)
 rwa [show k%1024+1024*(k/1024)=k by omega] at this
theorem NW (k:Nat):(268412285≤sn k*sn k+cs k*cs k∧sn k*sn k+cs k*cs k≤268458627)∧(sn k-sn (k+1))*(sn k-sn (k+1))+(cs k-cs (k+1))*(cs k-cs (k+1))≤729:=by
 refine Ba (Q:=fun k=>(268412285≤sn k*sn k+cs k*cs k∧sn k*sn k+cs k*cs k≤268458627)∧(sn k-sn (k+1))*(sn k-sn (k+1))+(cs k-cs (k+1))*(cs k-cs (k+1))≤729) ?_ ?_ k
 ·intro k hk
  have h:=VP _ 1024 0 IV k (by omega) (by omega)
  unfold AW at h
  simp only[aW,decide_eq_true_eq] at h
  exact h
 ·intro k h
  rw[show k+1024+1=k+1+1024 by omega,Gi,Gi,Gj,Gj]
  generalize sn k=a at *;generalize cs k=b at *;generalize sn (k+1)=c at *;generalize cs (k+1)=d at *
  have e1:b*b + -a * -a=a*a+b*b:=by grind
  have e2:(b-d)*(b-d)+(-a - -c)*(-a - -c)=(a-c)*(a-c)+(b-d)*(b-d):=by grind
  rw[e1,e2];exact h
theorem FM (k j:Nat) (hj:j<100):423801*((sn k-sn (k+j))*(sn k-sn (k+j))+(cs k-cs (k+j))*(cs k-cs (k+j)))≤(16384*((j:Int)+1)-10416)*(16384*((j:Int)+1)-10416):=by
 refine Ba (Q:=fun k=>423801*((sn k-sn (k+j))*(sn k-sn (k+j))+(cs k-cs (k+j))*(cs k-cs (k+j)))≤(16384*((j:Int)+1)-10416)*(16384*((j:Int)+1)-10416)) ?_ ?_ k
 ·intro k hk
  have h:DC k j=true:=by
   by_cases c1:k<256
   ·exact VP _ 100 0 (VP _ 256 0 EL k (by omega) (by omega)) j (by omega) (by omega)
   by_cases c2:k<512
   ·exact VP _ 100 0 (VP _ 256 256 EM k (by omega) (by omega)) j (by omega) (by omega)
   by_cases c3:k<768
   ·exact VP _ 100 0 (VP _ 256 512 EN k (by omega) (by omega)) j (by omega) (by omega)
   ·exact VP _ 100 0 (VP _ 256 768 EO k (by omega) (by omega)) j (by omega) (by omega)
  exact of_decide_eq_true h
 ·intro k h
  rw[show k+1024+j=k+j+1024 by omega,Gi,Gi,Gj,Gj]
  generalize sn k=a at *;generalize cs k=b at *;generalize sn (k+j)=c at *;generalize cs (k+j)=d at *
  have e2:(b-d)*(b-d)+(-a - -c)*(-a - -c)=(a-c)*(a-c)+(b-d)*(b-d):=by grind
  rw[e2];exact h
def AX (a b x y:Int):Prop:=0≤a*x+b*y∧4*((b*x-a*y)*(b*x-a*y))≤729*(x*x+y*y)
def U9 (h:Nat) (x y:Int):Prop:=AX (sn h) (cs h) x y
set_option maxRecDepth 20000 in
theorem RV {k:Nat} {x y:Int} (hk:k<4096) (h:Sec k x y):0≤sn (k+1)*x+cs (k+1)*y:=by
 have first:∀ (i:Nat) (x y:Int),i<1024→0≤x→0<y→0≤sn (i+1)*x+cs (i+1)*y:=by
  intro i x y hi hx hy
  rw[Rx (by omega),Ry (by omega)]
  have a:=aY (aO (XE (i+1))) hx
  have b:=aY (aO (XE (1024-(i+1)))) (fD hy)
  omega
 have turn:∀ (i:Nat) (x y:Int),0≤sn (i+1) * -y+cs (i+1)*x→0≤sn (i+1024+1)*x+cs (i+1024+1)*y:=by
  intro i x y h
  rw[show i+1024+1=i+1+1024 by omega,Gi,Gj]
  generalize sn (i+1)=a at *;generalize cs (i+1)=b at *
  have e:b*x + -a*y=a * -y+b*x:=by grind
  rw[e];exact h
 rcases HA hk h with a|a|a|a
 ·exact first k x y a.1 a.2.1 a.2.2.1
 ·have:=first (k-1024) (-y) x (by omega) a.2.2.1 a.2.2.2.1
  have t:=turn (k-1024) x y this
  rwa [show k-1024+1024=k by omega] at t
 ·have:=first (k-2048) (-x) (-y) (by omega) a.2.2.1 a.2.2.2.1
  have t:=turn (k-2048) (-y) x (by exact this)
  have t2:=turn (k-2048+1024) x y t
  rwa [show k-2048+1024+1024=k by omega] at t2
 ·have:=first (k-3072) y (-x) (by omega) a.2.1 a.2.2.1
  have t:=turn (k-3072) (-x) (-y) (by rw[fN];exact this)
  have t2:=turn (k-3072+1024) (-y) x (by exact t)
  have t3:=turn (k-3072+1024+1024) x y t2
  rwa [show k-3072+1024+1024+1024=k by omega] at t3
theorem IW (a b x y:Int):(a*x+b*y)*(a*x+b*y)≤(a*a+b*b)*(x*x+y*y):=by
 have e:(a*x+b*y)*(a*x+b*y)+(a*y-b*x)*(a*y-b*x)=(a*a+b*b)*(x*x+y*y):=by grind
 have:=KV (a*y-b*x)
 omega
theorem LM {k:Nat} {x y:Int} (hk:k<4096) (h:Sec k x y) :
  (cs k*x-sn k*y≤y*sn (k+1)-x*cs (k+1)→U9 k x y)∧(¬ cs k*x-sn k*y≤y*sn (k+1)-x*cs (k+1)→U9 (k+1) x y):=by
 have hc:=IW (cs k-cs (k+1)) (-(sn k-sn (k+1))) x y
 have hl:=(NW k).2
 have hf:=RV hk h
 obtain⟨h1,h2,h3⟩:=h
 unfold U9
 generalize sn k=a at *;generalize cs k=b at *;generalize sn (k+1)=c at *;generalize cs (k+1)=d at *
 have e0:(b-d)*(b-d) + -(a-c) * -(a-c)=(a-c)*(a-c)+(b-d)*(b-d):=by grind
 rw[e0] at hc
 have hn:0≤x*x+y*y:=by have:=KV x;have:=KV y;omega
 have h729:((a-c)*(a-c)+(b-d)*(b-d))*(x*x+y*y)≤729*(x*x+y*y):=cJ hl hn
 have e1:(b-d)*x + -(a-c)*y=(b*x-a*y)+(y*c-x*d):=by grind
 rw[e1] at hc
 generalize hp:b*x-a*y=p at *
 generalize hq:y*c-x*d=q at *
 constructor
 ·intro hle
  have s:=KB (x:=2*p) (y:=p+q) (by omega) (by omega)
  have e2:(2*p)*(2*p)=4*(p*p):=by grind
  exact⟨by omega,by rw[hp];omega⟩
 ·intro hlt
  have s:=KB (x:=2*q) (y:=p+q) (by omega) (by omega)
  have e2:(2*q)*(2*q)=4*(q*q):=by grind
  have e3:d*x-c*y=-q:=by rw[← hq];grind
  exact⟨hf,by rw[e3,cN];omega⟩
theorem U9.round {k:Nat} {x y:Int} (h:U9 k x y):U9 (k%4096) x y:=by
 unfold U9 at *
 rw[WY,WZ];exact h
section
variable {h:Nat} {x y r:Int}
theorem Zat (hN:U9 h x y) (hr:0≤r) (h1:r*r≤x*x+y*y) (h2:x*x+y*y<(r+1)*(r+1)) :
  (16384*x-r*sn h)*(16384*x-r*sn h)+(16384*y-r*cs h)*(16384*y-r*cs h)≤(16*r+16401)*(16*r+16401):=by
 obtain⟨f,sd⟩:=hN
 have hU:=(NW h).1
 generalize sn h=a at *;generalize cs h=b at *
 obtain⟨U,eU⟩:∃ U,a*a+b*b=U:=⟨_,rfl⟩
 obtain⟨n,en⟩:∃ n,x*x+y*y=n:=⟨_,rfl⟩
 obtain⟨g,eg⟩:∃ g,a*x+b*y=g:=⟨_,rfl⟩
 obtain⟨c,ec⟩:∃ c,b*x-a*y=c:=⟨_,rfl⟩
 have lag:g*g+c*c=n*U:=by rw[← eg,← ec,← en,← eU];grind
 have ident:U*((16384*x-r*a)*(16384*x-r*a)+(16384*y-r*b)*(16384*y-r*b))=(16384*g-U*r)*(16384*g-U*r)+(16384*c)*(16384*c):=by
  have i1:(16384*x-r*a)*(16384*x-r*a)+(16384*y-r*b)*(16384*y-r*b)=268435456*n-32768*r*g+r*r*U:=by rw[← en,← eg,← eU];grind
  have i2:(16384*g-U*r)*(16384*g-U*r)+(16384*c)*(16384*c)=268435456*(g*g+c*c)-32768*g*U*r+U*r*(U*r):=by grind
  rw[i1,i2,lag];grind
 rw[eU] at hU
 rw[eg] at f
 rw[ec,en] at sd
 rw[en] at h1 h2
 have cc:=KV c
 have n0:0≤n:=by have:=KV r;omega
 have g1:g*g≤(16385*(r+1))*(16385*(r+1)):=by
  have q1:n*U≤((r+1)*(r+1))*268468225:=bX (by omega) (by omega) (by omega) (KV _)
  have q2:(16385*(r+1))*(16385*(r+1))=((r+1)*(r+1))*268468225:=by grind
  omega
 have g2:=(Td (by omega) g1).2
 have g3:(16383*r)*(16383*r)≤g*g:=by
  have q1:(r*r)*1073648411≤n*(4*U-729):=bX h1 (by omega) (by omega) n0
  have q2:n*(4*U-729)=4*(n*U)-729*n:=by grind
  have q3:(16383*r)*(16383*r)=(r*r)*268402689:=by grind
  have:=KV r
  omega
 have g4:16383*r≤g:=by
  rcases dI g (16383*r) with hlt|hle
  ·exfalso
   have:=KB (x:=g+1) (y:=16383*r) (by omega) (by omega)
   have e:(g+1)*(g+1)=g*g+2*g+1:=by grind
   omega
  ·exact hle
 have ur1:U*r≤268458627*r:=cJ (by omega) hr
 have ur2:268412285*r≤U*r:=cJ (by omega) hr
 have al1:16384*g-U*r≤39555*r+268451840:=by omega
 have al2:-(39555*r+268451840)≤16384*g-U*r:=by omega
 have c1:(2*c)*(2*c)≤(27*(r+1))*(27*(r+1)):=by
  have q1:(2*c)*(2*c)=4*(c*c):=by grind
  have q2:(27*(r+1))*(27*(r+1))=729*((r+1)*(r+1)):=by grind
  omega
 have c2:=Td (by omega) c1
 have b1:(16384*g-U*r)*(16384*g-U*r)≤(39555*r+268451840)*(39555*r+268451840):=LL al2 al1
 have b2:(16384*c)*(16384*c)≤(221184*(r+1))*(221184*(r+1)):=LL (by omega) (by omega)
 have b3:(39555*r+268451840)*(39555*r+268451840)+(221184*(r+1))*(221184*(r+1))≤(39555*r+268451840+221184*(r+1))*(39555*r+268451840+221184*(r+1)):=by
  have q:=aY (show 0≤39555*r+268451840 by omega) (show 0≤221184*(r+1) by omega)
  generalize 39555*r+268451840=A at *
  generalize 221184*(r+1)=B at *
  have e:(A+B)*(A+B)=A*A+B*B+2*(A*B):=by grind
  omega
 have b4:(39555*r+268451840+221184*(r+1))*(39555*r+268451840+221184*(r+1))≤(16383*(16*r+16401))*(16383*(16*r+16401)):=KB (by omega) (by omega)
 have b5:(16383*(16*r+16401))*(16383*(16*r+16401))≤U*((16*r+16401)*(16*r+16401)):=by
  have q:(16383*(16*r+16401))*(16383*(16*r+16401))=268402689*((16*r+16401)*(16*r+16401)):=by grind
  rw[q]
  exact cJ (by omega) (KV _)
 refine gC (a:=U) ?_ (by omega)
 omega
theorem OC {p:Int} (hN:U9 h x y) (hr:0≤r) (h1:r*r≤x*x+y*y) (h2:x*x+y*y<(r+1)*(r+1)) (hp:0≤p) {m:Int} (hm1:p-r≤m) (hm2:r-p≤m) :
  (16384*x-p*sn h)*(16384*x-p*sn h)+(16384*y-p*cs h)*(16384*y-p*cs h)≤(16384*m+16*p+16401)*(16384*m+16*p+16401):=by
 have hE:=Zat hN hr h1 h2
 have hU:=(NW h).1
 generalize sn h=a at *;generalize cs h=b at *
 by_cases c:r≤p
 ·have q1:(-((p-r)*a))*(-((p-r)*a))+(-((p-r)*b))*(-((p-r)*b))≤(16385*(p-r))*(16385*(p-r)):=by
   have e1:(-((p-r)*a))*(-((p-r)*a))+(-((p-r)*b))*(-((p-r)*b))=((p-r)*(p-r))*(a*a+b*b):=by grind
   have e2:(16385*(p-r))*(16385*(p-r))=((p-r)*(p-r))*268468225:=by grind
   rw[e1,e2]
   exact dM (by omega) (KV _)
  have t:=tri (by omega) (by omega) hE q1
  have e3:16384*x-r*a + -((p-r)*a)=16384*x-p*a:=by grind
  have e4:16384*y-r*b + -((p-r)*b)=16384*y-p*b:=by grind
  rw[e3,e4] at t
  exact dJ t (KB (by omega) (by omega))
 ·have hrp:0<r:=by omega
  refine dJ ?_ (KB (x:=16384*(r-p)+16*p+16401) (by omega) (by omega))
  refine OB hrp ?_
  have q1:(16384*(r-p)*x)*(16384*(r-p)*x)+(16384*(r-p)*y)*(16384*(r-p)*y)≤(16384*(r-p)*(r+1))*(16384*(r-p)*(r+1)):=by
   refine DF ?_
   omega
  have q2:=DF (m:=p) hE
  have n1:0≤16384*(r-p)*(r+1):=aY (by omega) (by omega)
  have n2:0≤p*(16*r+16401):=aY hp (by omega)
  have t:=tri n1 n2 q1 q2
  have e3:16384*(r-p)*x+p*(16384*x-r*a)=r*(16384*x-p*a):=by grind
  have e4:16384*(r-p)*y+p*(16384*y-r*b)=r*(16384*y-p*b):=by grind
  rw[e3,e4] at t
  refine dJ t (KB (by omega) ?_)
  have e5:r*(16384*(r-p)+16*p+16401)-(16384*(r-p)*(r+1)+p*(16*r+16401))=17*(r-p):=by grind
  omega
theorem DG {p A R e vx vy:Int} {g j:Nat} (hN:U9 h x y) (hr:0≤r) (h1:r*r≤x*x+y*y) (h2:x*x+y*y<(r+1)*(r+1)) (hp:0≤p) (hm1:p-r≤R-1) (hm2:r-p≤R-1)
  (hg:g=h+j∨h=g+j) (hj:(j:Int)+1≤A) (hA:A≤100) (hvx:-8192≤p*sn g-16384*vx∧p*sn g-16384*vx≤8192) (hvy:-8192≤p*cs g-16384*vy∧p*cs g-16384*vy≤8192)
  (he:651*(R+2)+p*A≤651*e):(x-vx)*(x-vx)+(y-vy)*(y-vy)≤e*e:=by
 have t1:=DF (m:=651) (OC hN hr h1 h2 hp hm1 hm2)
 have hch:423801*((sn h-sn g)*(sn h-sn g)+(cs h-cs g)*(cs h-cs g))≤(16384*((j:Int)+1)-10416)*(16384*((j:Int)+1)-10416):=by
  rcases hg with rfl|rfl
  ·exact FM h j (by omega)
  ·have:=FM g j (by omega)
   generalize sn g=a at *;generalize cs g=b at *;generalize sn (g+j)=c at *;generalize cs (g+j)=d at *
   have e:(c-a)*(c-a)+(d-b)*(d-b)=(a-c)*(a-c)+(b-d)*(b-d):=by grind
   rw[e];exact this
 have aw:(651*(sn h-sn g))*(651*(sn h-sn g))+(651*(cs h-cs g))*(651*(cs h-cs g))≤(16384*A-10416)*(16384*A-10416):=by
  have e:(651*(sn h-sn g))*(651*(sn h-sn g))+(651*(cs h-cs g))*(651*(cs h-cs g))=423801*((sn h-sn g)*(sn h-sn g)+(cs h-cs g)*(cs h-cs g)):=by grind
  rw[e]
  exact dJ hch (KB (by omega) (by omega))
 have t2:=DF (m:=p) aw
 have t3:(651*(p*sn g-16384*vx))*(651*(p*sn g-16384*vx))+(651*(p*cs g-16384*vy))*(651*(p*cs g-16384*vy))≤(651*11586)*(651*11586):=by
  refine DF ?_
  have a:=LL hvx.1 hvx.2
  have b:=LL hvy.1 hvy.2
  omega
 have n2:0≤p*(16384*A-10416):=aY hp (by omega)
 have u1:=tri (by omega) n2 t1 t2
 have u2:=tri (by omega) (by decide) u1 t3
 generalize sn h=a at *;generalize cs h=b at *;generalize sn g=c at *;generalize cs g=d at *
 have e1:651*(16384*x-p*a)+p*(651*(a-c))+651*(p*c-16384*vx)=10665984*(x-vx):=by grind
 have e2:651*(16384*y-p*b)+p*(651*(b-d))+651*(p*d-16384*vy)=10665984*(y-vy):=by grind
 rw[e1,e2] at u2
 refine OB (m:=10665984) (by decide) (dJ u2 (KB (by omega) ?_))
 have e3:p*(16384*A-10416)=16384*(p*A)-10416*p:=by grind
 omega
end
end Go.Sky
end
section
namespace Go.Sky
open Go Go.Eng
theorem NZ {n a b:Int}:ZZ n a b=false→a≤n∧n≤b:=by
 unfold ZZ
 intro h
 simp only[bR,decide_eq_false_iff_not] at h
 omega
theorem rin {n a b:Int} (h:a≤n∧n≤b):ZZ n a b=false:=by
 unfold ZZ
 simp only[bR,decide_eq_false_iff_not]
 omega
def PIn (p:P):Prop:=-1000000≤p.X∧p.X≤1000000 ∧ -1000000≤p.Y∧p.Y≤1000000
theorem RX {p:P} (h:Xg p=0):PIn p:=by
 unfold Xg at h
 unfold PIn
 cases hc:((((decide (p.X<(-1000000)))||(decide (p.X>1000000)))||(decide (p.Y<(-1000000))))||(decide (p.Y>1000000))) with
 | true=>rw[hc] at h;cases h
 | false =>
  simp only[bR,decide_eq_false_iff_not] at hc
  omega
structure Mc (s:Zl):Prop where
 id:0≤s.ID∧s.ID≤255
 at_:PIn s.At
 reach:1≤s.Reach∧s.Reach≤1000000
 rerr:1≤s.RangeError∧s.RangeError≤10000
 aerr:1≤s.AzimuthError∧s.AzimuthError≤100
theorem Hq {a:Int} (h:(a != 0)=false):a=0:=by simpa using h
theorem DI {s:Zl} (h:Y7 s=0):Mc s:=by
 unfold Y7 at h
 simp only at h
 cases h1:ZZ s.ID 0 255 <;> rw[h1] at h <;> simp only[cond_true,cond_false] at h
 case true=>cases h
 cases h2:(Xg s.At != 0) <;> rw[h2] at h <;> simp only[cond_true,cond_false] at h
 case true=>cases h
 cases h3:ZZ s.Reach 1 1000000 <;> rw[h3] at h <;> simp only[cond_true,cond_false] at h
 case true=>cases h
 cases h4:ZZ s.RangeError 1 10000 <;> rw[h4] at h <;> simp only[cond_true,cond_false] at h
 case true=>cases h
 cases h5:ZZ s.AzimuthError 1 100 <;> rw[h5] at h <;> simp only[cond_true,cond_false] at h
 case true=>cases h
 exact⟨NZ h1,RX (Hq h2),NZ h3,NZ h4,NZ h5⟩
structure OD (t:Zm):Prop where
 time:0≤t.Time∧t.Time≤200000
 at_:PIn t.At
 height:0≤t.Height∧t.Height≤60000
 code:-1≤t.Code∧t.Code≤4095
theorem EP {t:Zm} (h:ZD t=0):OD t:=by
 unfold ZD at h
 simp only at h
 cases h1:ZZ t.Time 0 200000 <;> rw[h1] at h <;> simp only[cond_true,cond_false] at h
 case true=>cases h
 cases h2:(Xg t.At != 0) <;> rw[h2] at h <;> simp only[cond_true,cond_false] at h
 case true=>cases h
 cases h3:ZZ t.Height 0 60000 <;> rw[h3] at h <;> simp only[cond_true,cond_false] at h
 case true=>cases h
 cases h4:ZZ t.Code (-1) 4095 <;> rw[h4] at h <;> simp only[cond_true,cond_false] at h
 case true=>cases h
 exact⟨NZ h1,RX (Hq h2),NZ h3,NZ h4⟩
theorem GG {x n:Int} (h:-n≤x∧x≤n):0≤x*x∧x*x≤n*n:=⟨KV x,LL h.1 h.2⟩
theorem Wa {p q:P} (hp:PIn p) (hq:PIn q):Yy p q=(p.X-q.X)*(p.X-q.X)+(p.Y-q.Y)*(p.Y-q.Y)∧(p.X-q.X)*(p.X-q.X)+(p.Y-q.Y)*(p.Y-q.Y)≤8000000000000:=by
 unfold PIn at hp hq
 have a:=GG (x:=p.X-q.X) (n:=2000000) (by omega)
 have b:=GG (x:=p.Y-q.Y) (n:=2000000) (by omega)
 unfold Yy Ju UK
 simp only
 rw[Zu (x:=p.X-q.X) (by omega),Zu (x:=p.Y-q.Y) (by omega),Zu (x:=(p.X-q.X)*(p.X-q.X)) (by omega),Zu (x:=(p.Y-q.Y)*(p.Y-q.Y)) (by omega),Zu (by omega)]
 exact⟨rfl,by omega⟩
def sqr (a b:P):Int:=w64 ((w64 ((w64 (a.X-b.X))*(w64 (a.X-b.X))))+(w64 ((w64 (a.Y-b.Y))*(w64 (a.Y-b.Y)))))
theorem Md {p q:P} (hp:PIn p) (hq:PIn q):sqr p q=(p.X-q.X)*(p.X-q.X)+(p.Y-q.Y)*(p.Y-q.Y):=by
 unfold PIn at hp hq
 have a:=GG (x:=p.X-q.X) (n:=2000000) (by omega)
 have b:=GG (x:=p.Y-q.Y) (n:=2000000) (by omega)
 unfold sqr
 rw[Zu (x:=p.X-q.X) (by omega),Zu (x:=p.Y-q.Y) (by omega),Zu (x:=(p.X-q.X)*(p.X-q.X)) (by omega),Zu (x:=(p.Y-q.Y)*(p.Y-q.Y)) (by omega),Zu (by omega)]
theorem Me (n:Int) (hn:n≤8000000000000):∀ (j:Nat) (a b:Int),(0≤a∧a≤b∧b≤3037000499∧b-a<2 ^ j)→a*a≤n→n<(b+1)*(b+1)→∃ R,Qu n (j+1) a b=some R∧0≤R∧R*R≤n∧n<(R+1)*(R+1)
 | 0,a,b,h,h5,h6=>by
  have e:(2:Int) ^ 0=1:=rfl
  have hab:a=b:=by omega
  exact⟨a,by rw[Qu,decide_eq_false (by omega)];rfl,h.1,h5,by rw[hab];exact h6⟩
 | j+1,a,b,h,h5,h6=>by
  have e:(2:Int) ^ (j+1)=2*2 ^ j:=by rw[Int.pow_succ];omega
  by_cases hk:a<b
  ·have w1:w64 (w64 (b-a)+1)=b-a+1:=by rw[Zu (x:=b-a) (by omega),Zu (by omega)]
   have d1:(b-a+1).tdiv 2=(b-a+1)/2:=dC (by omega)
   have w2:w64 ((w64 (w64 (b-a)+1)).tdiv 2)=(b-a+1)/2:=by rw[w1,d1,Zu (by omega)]
   have w3:w64 (a+w64 ((w64 (w64 (b-a)+1)).tdiv 2))=a+(b-a+1)/2:=by rw[w2,Zu (by omega)]
   have m1:=GG (x:=a+(b-a+1)/2) (n:=3037000499) (by omega)
   rw[Qu,decide_eq_true hk]
   simp only[cond_true,w3]
   rw[Zu (x:=(a+(b-a+1)/2)*(a+(b-a+1)/2)) (by omega)]
   by_cases hc:(a+(b-a+1)/2)*(a+(b-a+1)/2)≤n
   ·rw[decide_eq_true hc,cond_true]
    exact Me n hn j _ b (by omega) hc h6
   ·rw[decide_eq_false hc,cond_false,Zu (by omega)]
    exact Me n hn j a _ (by omega) h5 (by rw[show a+(b-a+1)/2-1+1=a+(b-a+1)/2 by omega];omega)
  ·have hab:a=b:=by omega
   exact⟨a,by rw[Qu,decide_eq_false hk];rfl,h.1,h5,by rw[hab];exact h6⟩
theorem M1 {n:Int} (h:0≤n∧n≤8000000000000):0≤Qv n∧Qv n*Qv n≤n∧n<(Qv n+1)*(Qv n+1):=by
 by_cases h0:n≤0
 ·have e:Qv n=0:=by unfold Qv;rw[decide_eq_true h0];rfl
  rw[e];omega
 ·obtain⟨R,h1,h2⟩:=Me n h.2 33 0 3037000499 (by decide) (by omega) (by omega)
  have e:Qv n=R:=by unfold Qv Xq;rw[decide_eq_false h0,cond_false,h1];rfl
  rw[e];exact h2
theorem OE (p q:P):(QO p q).1=Qv (Yy p q):=by
 unfold QO
 simp only
 cases decide (w64 (Qv (Yy p q)*Qv (Yy p q))<Yy p q) <;> rfl
theorem OG {s:Zl} {far:Int} (hs:Mc s) (hf:0≤far∧far≤2000000) (h:Y7 s=0):(Jg s far).1=s.RangeError + -(-(far*s.AzimuthError)/651) + -(-far/23170)+2∧0≤far*s.AzimuthError:=by
 have hm:0≤far*s.AzimuthError∧far*s.AzimuthError≤200000000:=by
  have a:=hs.aerr
  exact⟨aY hf.1 (by omega),dJ (bX hf.2 a.2 (by omega) (by decide)) (by decide)⟩
 have r:=hs.rerr
 refine⟨?_,hm.1⟩
 unfold Jg
 simp only
 rw[h,rin (show (0:Int)≤far∧far≤2000000 from hf)]
 simp only[bne_self_eq_false,cond_false]
 rw[Zu (x:=far*s.AzimuthError) (by omega),MR (by decide) (by omega),MR (by decide) (by omega)]
 simp only
 rw[Zu (x:=s.RangeError + -(-(far*s.AzimuthError)/651)) (by omega),Zu (x:=s.RangeError + -(-(far*s.AzimuthError)/651) + -(-far/23170)) (by omega),Zu (by omega)]
theorem Wb (n:Int):-8192≤n-16384*Qf n∧n-16384*Qf n≤8192:=by unfold Qf;split <;> omega
theorem OH {g:Nat} {p:Int} (hp:0≤p∧p≤2000000):Jz g p=(⟨Qf (p*sn g),Qf (p*cs g)⟩,0):=by
 have a:=Ud (F6 g) (b:=p) (by omega)
 have b:=Ud (F7 g) (b:=p) (by omega)
 unfold Jz
 simp only
 rw[N2,N3,decide_eq_false (show ¬ p<0 by omega),decide_eq_false (show ¬ p>2000000 by omega)]
 simp only[Bool.or_self,cond_false]
 rw[Zu (by rw[dX];omega),Zu (by rw[dX];omega)]
theorem EQ {g:Nat} {p:Int} (hp:0≤p∧p≤2000000):(-2000002≤Qf (p*sn g)∧Qf (p*sn g)≤2000002)∧(-2000002≤Qf (p*cs g)∧Qf (p*cs g)≤2000002):=by
 have a:=Ud (F6 g) (b:=p) (by omega)
 have b:=Ud (F7 g) (b:=p) (by omega)
 rw[dX] at a b
 have c:=Wb (p*sn g)
 have d:=Wb (p*cs g)
 omega
theorem B7 {s:Zl} {p:Zr} (h:(ZU s p).2=0):Mc s∧(0≤p.Range∧p.Range≤2000000)∧(0≤p.Azimuth∧p.Azimuth≤4095)∧∃ vx vy:Int,vx=Qf (p.Range*sn p.Azimuth.toNat)∧vy=Qf (p.Range*cs p.Azimuth.toNat) ∧
  (ZU s p).1.At=⟨s.At.X+vx,s.At.Y+vy⟩∧PIn (ZU s p).1.At∧(ZU s p).1.Error=s.RangeError + -(-(p.Range*s.AzimuthError)/651) + -(-p.Range/23170)+2∧(ZU s p).1.Error≤1000000 ∧
  (ZU s p).1.Time=p.Time∧(ZU s p).1.Height=p.Height∧(ZU s p).1.Code=p.Code:=by
 unfold ZU at h ⊢
 simp only at h ⊢
 cases h1:(Y7 s != 0) <;> rw[h1] at h <;> simp only[cond_true,cond_false] at h ⊢
 case true=>rw[h] at h1;cases h1
 cases h2:(Yz p != 0) <;> rw[h2] at h <;> simp only[cond_true,cond_false] at h ⊢
 case true=>rw[h] at h2;cases h2
 cases h3:(p.Radar != s.ID) <;> rw[h3] at h <;> simp only[cond_true,cond_false] at h ⊢
 case true=>cases h
 have hs:=DI (Hq h1)
 have hp:(0≤p.Range∧p.Range≤2000000)∧(0≤p.Azimuth∧p.Azimuth≤4095):=by
  have q:=Hq h2
  unfold Yz at q
  simp only at q
  cases g1:ZZ p.Radar 0 255 <;> rw[g1] at q <;> simp only[cond_true,cond_false] at q
  case true=>cases q
  cases g2:ZZ p.Time 0 200000 <;> rw[g2] at q <;> simp only[cond_true,cond_false] at q
  case true=>cases q
  cases g3:ZZ p.Range 0 2000000 <;> rw[g3] at q <;> simp only[cond_true,cond_false] at q
  case true=>cases q
  cases g4:ZZ p.Azimuth 0 4095 <;> rw[g4] at q <;> simp only[cond_true,cond_false] at q
  case true=>cases q
  exact⟨NZ g3,NZ g4⟩
 have hz:(p.Azimuth.toNat:Int)=p.Azimuth:=bN hp.2.1
 have hv:=OH (g:=p.Azimuth.toNat) hp.1
 rw[hz] at hv
 rw[hv] at h ⊢
 have hb:=EQ (g:=p.Azimuth.toNat) hp.1
 have ha:=hs.at_
 have he:=(OG hs hp.1 (Hq h1)).1
 unfold PIn at ha
 simp only at h ⊢
 have fc:JE s.At ⟨Qf (p.Range*sn p.Azimuth.toNat),Qf (p.Range*cs p.Azimuth.toNat)⟩=⟨s.At.X+Qf (p.Range*sn p.Azimuth.toNat),s.At.Y+Qf (p.Range*cs p.Azimuth.toNat)⟩:=by
  unfold JE
  simp only
  rw[Zu (by omega),Zu (by omega)]
 rw[fc] at h ⊢
 cases h4:((Xg ⟨s.At.X+Qf (p.Range*sn p.Azimuth.toNat),s.At.Y+Qf (p.Range*cs p.Azimuth.toNat)⟩ != 0)||(decide ((Jg s p.Range).1>1000000))) <;> rw[h4] at h <;> simp only[cond_true,cond_false] at h ⊢
 case true=>cases h
 rw[bR] at h4
 have h5:=of_decide_eq_false h4.2
 exact⟨hs,hp.1,hp.2,_,_,rfl,rfl,rfl,RX (Hq h4.1),he,by omega,by first|trivial|simp⟩
theorem Vl {s:Zl} {t:Zm} (h:(Z8 s t).2=0):Y7 s=0∧Mc s∧OD t∧Y3 s.At t.At s.Reach=true ∧
  (Z8 s t).1=⟨s.ID,t.Time,Qv (Yy s.At t.At),if s.At=t.At then 0 else (ofF (Ju t.At s.At)).1,t.Height,t.Code⟩:=by
 unfold Z8 at h ⊢
 simp only at h ⊢
 cases h1:(Y7 s != 0) <;> rw[h1] at h <;> simp only[cond_true,cond_false] at h ⊢
 case true=>rw[h] at h1;cases h1
 cases h2:(ZD t != 0) <;> rw[h2] at h <;> simp only[cond_true,cond_false] at h ⊢
 case true=>rw[h] at h2;cases h2
 cases h3:Y3 s.At t.At s.Reach <;> rw[h3] at h <;> simp only[eO,dK,cond_true,cond_false] at h ⊢
 ·cases h
 refine⟨Hq h1,DI (Hq h1),EP (Hq h2),by first|rfl|trivial,?_⟩
 rw[OE,P.eqb_eq]
 by_cases he:s.At=t.At
 ·rw[decide_eq_true he,if_pos he];rfl
 ·rw[decide_eq_false he,if_neg he];rfl
theorem Tf {v:P} (hv:Un v) (h0:¬ (v.X=0∧v.Y=0)):(0≤(ofF v).1∧(ofF v).1<4096)∧U9 (ofF v).1.toNat v.X v.Y:=by
 obtain⟨h1,h2⟩:=B1 h0
 obtain⟨n1,n2⟩:=LM h1 h2
 unfold Un at hv
 unfold ofF
 rw[if_neg (by omega),if_neg h0]
 simp only
 by_cases c:cs (W5 v.X v.Y)*v.X-sn (W5 v.X v.Y)*v.Y≤v.Y*sn (W5 v.X v.Y+1)-v.X*cs (W5 v.X v.Y+1)
 ·rw[if_pos c,aP]
  exact⟨by omega,n1 c⟩
 ·rw[if_neg c,aP]
  have n:=n2 c
  refine⟨by omega,?_⟩
  unfold U9 at n ⊢
  rw[WY,WZ];exact n
theorem AY (k:Nat):sn (k+4096)=sn k:=by unfold sn;rw[Nat.add_mod_right]
theorem AZ (k:Nat):cs (k+4096)=cs k:=by unfold cs;rw[show (k+4096+1024)%4096=(k+1024)%4096 by omega]
theorem RY {s:Zl} {t:Zm} {p:Zr} {u:Int} (hs:(Z8 s t).2=0) (hne:s.At≠t.At) (hr:p.Range-(Z8 s t).1.Range≤s.RangeError-1∧(Z8 s t).1.Range-p.Range≤s.RangeError-1)
  (hu:1-s.AzimuthError≤u∧u≤s.AzimuthError-1) (ha:p.Azimuth=((Z8 s t).1.Azimuth+u+4096)%4096) (hx:(ZU s p).2=0) :
  sqr (ZU s p).1.At t.At≤(ZU s p).1.Error*(ZU s p).1.Error:=by
 obtain⟨_,hS,hT,hw,hp⟩:=Vl hs
 rw[hp] at hr ha
 simp only[if_neg hne] at hr ha
 obtain⟨_,h1,h2,vx,vy,e1,e2,e3,e4,e5,e6,_⟩:=B7 hx
 rw[Md e4 hT.at_,e3]
 simp only
 have q:=Wa hS.at_ hT.at_
 have a1:=hS.at_
 have a2:=hT.at_
 unfold PIn at a1 a2
 have hX:Ju t.At s.At=⟨t.At.X-s.At.X,t.At.Y-s.At.Y⟩:=by unfold Ju;rw[Zu (by omega),Zu (by omega)]
 have h0:¬ (t.At.X-s.At.X=0∧t.At.Y-s.At.Y=0):=by
  rintro⟨z1,z2⟩
  refine hne ?_
  have b1:s.At.X=t.At.X:=by omega
  have b2:s.At.Y=t.At.Y:=by omega
  rcases hsA:s.At with ⟨sx,sy⟩
  rcases htA:t.At with ⟨tx,ty⟩
  rw[hsA,htA] at b1 b2
  simp only at b1 b2
  rw[b1,b2]
 obtain⟨o1,o2⟩:=Tf (v:=⟨t.At.X-s.At.X,t.At.Y-s.At.Y⟩) (by unfold Un;simp only;omega) h0
 rw[hX] at ha
 simp only at o2
 generalize (ofF ⟨t.At.X-s.At.X,t.At.Y-s.At.Y⟩).1=H at o1 o2 ha
 rw[q.1] at hr
 have sqs:(s.At.X-t.At.X)*(s.At.X-t.At.X)+(s.At.Y-t.At.Y)*(s.At.Y-t.At.Y)=(t.At.X-s.At.X)*(t.At.X-s.At.X)+(t.At.Y-s.At.Y)*(t.At.Y-s.At.Y):=by grind
 have n0:=KV (s.At.X-t.At.X)
 have n1:=KV (s.At.Y-t.At.Y)
 obtain⟨r0,r1,r2⟩:=M1 (n:=(s.At.X-t.At.X)*(s.At.X-t.At.X)+(s.At.Y-t.At.Y)*(s.At.Y-t.At.Y)) ⟨by omega,q.2⟩
 generalize Qv ((s.At.X-t.At.X)*(s.At.X-t.At.X)+(s.At.Y-t.At.Y)*(s.At.Y-t.At.Y))=r at r0 r1 r2 hr
 rw[sqs] at r1 r2
 have neg:(s.At.X+vx-t.At.X)*(s.At.X+vx-t.At.X)+(s.At.Y+vy-t.At.Y)*(s.At.Y+vy-t.At.Y)=(t.At.X-s.At.X-vx)*(t.At.X-s.At.X-vx)+(t.At.Y-s.At.Y-vy)*(t.At.Y-s.At.Y-vy):=by grind
 rw[neg]
 have b1:=Wb (p.Range*sn p.Azimuth.toNat)
 have b2:=Wb (p.Range*cs p.Azimuth.toNat)
 rw[← e1] at b1
 rw[← e2] at b2
 have aerr:=hS.aerr
 have hm:=aY h1.1 (show (0:Int)≤s.AzimuthError by omega)
 have he:651*(s.RangeError+2)+p.Range*s.AzimuthError≤651*(ZU s p).1.Error:=by
  rw[e5]
  generalize p.Range*s.AzimuthError=m at *
  omega
 by_cases hu0:0≤u
 ·refine DG (h:=H.toNat) (g:=H.toNat+u.toNat) (j:=u.toNat) (r:=r) (p:=p.Range) (A:=s.AzimuthError) (R:=s.RangeError) o2 r0 r1 r2 h1.1 hr.1 hr.2 (.inl rfl) (by omega) aerr.2 ?_ ?_ he
  ·rw[← WY (H.toNat+u.toNat),show (H.toNat+u.toNat)%4096=p.Azimuth.toNat by omega];exact b1
  ·rw[← WZ (H.toNat+u.toNat),show (H.toNat+u.toNat)%4096=p.Azimuth.toNat by omega];exact b2
 ·have o3:U9 (H.toNat+4096) (t.At.X-s.At.X) (t.At.Y-s.At.Y):=by unfold U9 at o2 ⊢;rw[AY,AZ];exact o2
  refine DG (h:=H.toNat+4096) (g:=(H+4096+u).toNat) (j:=(-u).toNat) (r:=r) (p:=p.Range) (A:=s.AzimuthError) (R:=s.RangeError) o3 r0 r1 r2 h1.1 hr.1 hr.2 (.inr (by omega)) (by omega) aerr.2 ?_ ?_ he
  ·rw[← WY (H+4096+u).toNat,show (H+4096+u).toNat%4096=p.Azimuth.toNat by omega];exact b1
  ·rw[← WZ (H+4096+u).toNat,show (H+4096+u).toNat%4096=p.Azimuth.toNat by omega];exact b2
theorem LN {p q:P} {d:Int} (hp:PIn p) (hq:PIn q) (hd:1≤d∧d≤1000000) (h:Y3 p q d=true):(p.X-q.X)*(p.X-q.X)+(p.Y-q.Y)*(p.Y-q.Y)≤d*d:=by
 have s:=GG (x:=d) (n:=1000000) (by omega)
 unfold Y3 at h
 simp only at h
 rw[(Wa hp hq).1,Zu (x:=d*d) (by omega)] at h
 cases h1:((decide (d≥0))&&(decide (d≤8000000))) with
 | false=>rw[h1] at h;simp at h
 | true =>
  rw[h1] at h
  simpa using h
theorem WI {s:Zl} {t:Zm} (h:(Z8 s t).2=0):0≤(Z8 s t).1.Range∧(Z8 s t).1.Range≤1000000:=by
 obtain⟨_,hS,hT,hw,hp⟩:=Vl h
 rw[hp]
 simp only
 have q:=Wa hS.at_ hT.at_
 have b:=LN hS.at_ hT.at_ hS.reach hw
 have n0:=KV (s.At.X-t.At.X)
 have n1:=KV (s.At.Y-t.At.Y)
 rw[q.1]
 obtain⟨r0,r1,_⟩:=M1 (n:=(s.At.X-t.At.X)*(s.At.X-t.At.X)+(s.At.Y-t.At.Y)*(s.At.Y-t.At.Y)) ⟨by omega,q.2⟩
 have:=(Td (y:=s.Reach) (by have:=hS.reach;omega) (dJ r1 b)).2
 have:=hS.reach
 omega
theorem VQ {s:Zl} {t:Zm} (h:(Z8 s t).2=0):0≤(Z8 s t).1.Azimuth∧(Z8 s t).1.Azimuth≤4095:=by
 obtain⟨_,hS,hT,hw,hp⟩:=Vl h
 rw[hp]
 simp only
 by_cases he:s.At=t.At
 ·rw[if_pos he];decide
 rw[if_neg he]
 have a1:=hS.at_
 have a2:=hT.at_
 unfold PIn at a1 a2
 have hX:Ju t.At s.At=⟨t.At.X-s.At.X,t.At.Y-s.At.Y⟩:=by unfold Ju;rw[Zu (by omega),Zu (by omega)]
 by_cases h0:t.At.X-s.At.X=0∧t.At.Y-s.At.Y=0
 ·rw[hX]
  have z:=U0 (v:=⟨t.At.X-s.At.X,t.At.Y-s.At.Y⟩) (by unfold Un;simp only;omega) h0
  rw[← z.1];decide
 ·have:=(Tf (v:=⟨t.At.X-s.At.X,t.At.Y-s.At.Y⟩) (by unfold Un;simp only;omega) h0).1
  rw[hX];omega
theorem WJ {s:Zl} {t:Zm} (h:(Z8 s t).2=0):Yz (Z8 s t).1=0∧(Z8 s t).1.Radar=s.ID:=by
 have a:=WI h
 have b:=VQ h
 obtain⟨_,hS,hT,hw,hp⟩:=Vl h
 have e1:(Z8 s t).1.Radar=s.ID:=by rw[hp]
 have e2:(Z8 s t).1.Time=t.Time:=by rw[hp]
 have e3:(Z8 s t).1.Height=t.Height:=by rw[hp]
 have e4:(Z8 s t).1.Code=t.Code:=by rw[hp]
 refine⟨?_,e1⟩
 unfold Yz
 simp only
 rw[e1,e2,e3,e4,rin (show (0:Int)≤s.ID∧s.ID≤255 from hS.id),rin (show (0:Int)≤t.Time∧t.Time≤200000 from hT.time),rin (show (0:Int)≤(Z8 s t).1.Range∧(Z8 s t).1.Range≤2000000 by omega),rin (show (0:Int)≤(Z8 s t).1.Azimuth∧(Z8 s t).1.Azimuth≤4095 by omega),rin (show (0:Int)≤t.Height∧t.Height≤60000 from hT.height),rin (show (-1:Int)≤t.Code∧t.Code≤4095 from hT.code)]
 rfl
theorem Sz {s:Zl} {t:Zm} (hs:(Z8 s t).2=0) (he:s.At=t.At) (hx:(ZU s (Z8 s t).1).2=0):sqr (ZU s (Z8 s t).1).1.At t.At≤(ZU s (Z8 s t).1).1.Error*(ZU s (Z8 s t).1).1.Error:=by
 obtain⟨_,hS,hT,hw,hp⟩:=Vl hs
 obtain⟨_,h1,h2,vx,vy,e1,e2,e3,e4,e5,e6,_⟩:=B7 hx
 have hr:(Z8 s t).1.Range=0:=by
  rw[hp]
  simp only
  rw[(Wa hS.at_ hT.at_).1,he]
  have z:(t.At.X-t.At.X)*(t.At.X-t.At.X)+(t.At.Y-t.At.Y)*(t.At.Y-t.At.Y)=0:=by rw[dZ,dZ];rfl
  rw[z];rfl
 rw[hr,Int.zero_mul] at e1 e2
 have v0:Qf 0=0:=rfl
 rw[v0] at e1 e2
 rw[Md e4 hT.at_,e3,he,e1,e2]
 simp only[Int.add_zero,dZ]
 exact KV _
theorem IX {s:Zl} {p:Zr} (hx:(ZU s p).2=0):0≤(ZU s p).1.Error∧(ZU s p).1.Error≤1000000:=by
 obtain⟨hS,h1,_,_,_,_,_,_,_,e5,e6,_⟩:=B7 hx
 have a:=hS.aerr
 have b:=hS.rerr
 have m:=aY h1.1 (show (0:Int)≤s.AzimuthError by omega)
 exact⟨by rw[e5];omega,e6⟩
end Go.Sky
end
section
namespace Go.Sky
open Go Go.Eng
theorem S0 {s:Zl} {t:Zm} (h1:Y7 s=0) (h2:ZD t=0) (h3:Y3 s.At t.At s.Reach=true):(Z8 s t).2=0:=by
 unfold Z8
 simp only
 rw[h1,h2,h3]
 simp only[bne_self_eq_false,cond_false,dK]
 cases (P.eqb s.At t.At) <;> rfl
theorem FN {p:P} (h:PIn p):Xg p=0:=by
 unfold PIn at h
 unfold Xg
 rw[decide_eq_false (show ¬ p.X < -1000000 by omega),decide_eq_false (show ¬ p.X>1000000 by omega),decide_eq_false (show ¬ p.Y < -1000000 by omega),decide_eq_false (show ¬ p.Y>1000000 by omega)];rfl
theorem RZ {f:Zw} (h:KG f) {t:Int} (ht:0≤t∧t≤200):ZD (QD f t)=0:=by
 have p:=GF h ht
 have hh:=h.h;have hc:=h.c
 unfold ZD QD
 simp only
 rw[p.1,rin (n:=t) (by omega),rin (n:=f.height) (by omega),rin (n:=f.code) (by omega),rin (n:=0) (by decide),FN (by unfold PIn;simp only;omega)]
 rfl
theorem Cb {p q:P} (hp:PIn p) (hq:PIn q) {d X Y:Int} (hd:0≤d∧d≤1000000) (hx:-X≤p.X-q.X∧p.X-q.X≤X) (hy:-Y≤p.Y-q.Y∧p.Y-q.Y≤Y) (h:X*X+Y*Y≤d*d):Y3 p q d=true:=by
 have a:=GG hx
 have b:=GG hy
 have hdd:0≤d*d∧d*d≤1000000000000:=by
  have:=GG (x:=d) (n:=1000000) (by omega);omega
 unfold Y3
 simp only
 rw[decide_eq_true (show d≥0 by omega),decide_eq_true (show d≤8000000 by omega),Bool.and_true,cond_true,(Wa hp hq).1,Zu (by omega)]
 exact decide_eq_true (by omega)
def Ks:Zl:=⟨1,⟨-20000,0⟩,400000,50,2⟩
theorem S1 {s:Zl} {p:Zr} (h1:Y7 s=0) (h2:Yz p=0) (h3:p.Radar=s.ID) (hr:0≤p.Range∧p.Range≤400000) (ha:0≤p.Azimuth∧p.Azimuth≤4095) (hx:-100000≤s.At.X∧s.At.X≤100000) (hy:-100000≤s.At.Y∧s.At.Y≤100000):(ZU s p).2=0:=by
 have hs:=DI h1
 have hz:(p.Azimuth.toNat:Int)=p.Azimuth:=bN ha.1
 have hv:=OH (g:=p.Azimuth.toNat) (p:=p.Range) (by omega)
 rw[hz] at hv
 have a:=G3 (A:=16384) (F6 p.Azimuth.toNat) hr
 have b:=G3 (A:=16384) (F7 p.Azimuth.toNat) hr
 rw[dX _ p.Range] at a b
 have c:=Wb (p.Range*sn p.Azimuth.toNat)
 have d:=Wb (p.Range*cs p.Azimuth.toNat)
 have e:=OG hs (far:=p.Range) (by omega) h1
 have re:=hs.rerr;have ae:=hs.aerr
 have m:p.Range*s.AzimuthError≤400000*100:=bX hr.2 ae.2 (by omega) (by decide)
 unfold ZU
 simp only
 rw[h1,h2,h3,hv]
 simp only[bne_self_eq_false,cond_false]
 have fc:JE s.At ⟨Qf (p.Range*sn p.Azimuth.toNat),Qf (p.Range*cs p.Azimuth.toNat)⟩=⟨s.At.X+Qf (p.Range*sn p.Azimuth.toNat),s.At.Y+Qf (p.Range*cs p.Azimuth.toNat)⟩:=by
  unfold JE
  simp only
  rw[Zu (by omega),Zu (by omega)]
 rw[fc,FN (by unfold PIn;simp only;omega),e.1,decide_eq_false (by omega)]
 rfl
theorem Cc {s:Zl} {t:Zm} (hs:(Z8 s t).2=0) (hx:(ZU s (Z8 s t).1).2=0):sqr (ZU s (Z8 s t).1).1.At t.At≤(ZU s (Z8 s t).1).1.Error*(ZU s (Z8 s t).1).1.Error:=by
 by_cases he:s.At=t.At
 ·exact Sz hs he hx
 ·have hc:=Vl hs
  have ae:=hc.2.1.aerr
  have re:=hc.2.1.rerr
  have az:=VQ hs
  exact RY (u:=0) hs he (by omega) (by omega) (by omega) hx
end Go.Sky
end
section
namespace Go.Sky
open Go Go.Eng Go.Glue
def grow (xo acc d:Int):Int:=-(-(xo*d)/16) + -(-(acc*d*d)/2)+2
def Vx (x y R:Int):Prop:=0≤R∧x*x+y*y≤R*R
theorem Vx.add {x y R a b S:Int} (h:Vx x y R) (g:Vx a b S):Vx (x+a) (y+b) (R+S):=⟨by have:=h.1;have:=g.1;omega,Ph h.1 g.1 h.2 g.2⟩
theorem Vx.mono {x y R S:Int} (h:Vx x y R) (hs:R≤S):Vx x y S:=⟨by have:=h.1;omega,by have:=bX hs hs h.1 (by have:=h.1;omega:(0:Int)≤S);have:=h.2;omega⟩
theorem Vx.scale {x y R k:Int} (h:Vx x y R) (hk:0≤k):Vx (k*x) (k*y) (k*R):=by
 refine⟨aY hk h.1,?_⟩
 have e1:k*x*(k*x)+k*y*(k*y)=k*k*(x*x+y*y):=by grind
 have e2:k*R*(k*R)=k*k*(R*R):=by grind
 rw[e1,e2]
 exact dM h.2 (aY hk hk)
theorem Vx.box {x y b R:Int} (hx:-b≤x∧x≤b) (hy:-b≤y∧y≤b) (hR:0≤R) (h:2*(b*b)≤R*R):Vx x y R:=⟨hR,by have:=G2 hx;have:=G2 hy;omega⟩
theorem Vx.neg {x y R:Int} (h:Vx x y R):Vx (-x) (-y) R:=⟨h.1,by rw[cN,cN];exact h.2⟩
theorem Vx.abs {x y R:Int} (h:Vx x y R):(-R≤x∧x≤R)∧(-R≤y∧y≤R):=by
 have nn:∀ z:Int,0≤z*z:=fun z=>by
  rcases fB 0 z with g|g
  ·exact aY g g
  ·rw[← cN];exact aY (by omega) (by omega)
 have key:∀ z:Int,z*z≤R*R → -R≤z∧z≤R:=by
  intro z hz
  have h0:=h.1
  constructor
  ·rcases dI z (-R) with g|g
   ·have:(R+1)*(R+1)≤(-z)*(-z):=bX (by omega) (by omega) (by omega) (by omega)
    rw[cN] at this
    have e:(R+1)*(R+1)=R*R+2*R+1:=by grind
    omega
   ·exact g
  ·rcases dI R z with g|g
   ·have:(R+1)*(R+1)≤z*z:=bX (by omega) (by omega) (by omega) (by omega)
    have e:(R+1)*(R+1)=R*R+2*R+1:=by grind
    omega
   ·exact g
 have n1:=nn x
 have n2:=nn y
 have h2:=h.2
 exact⟨key x (by omega),key y (by omega)⟩
structure Run (x v:Nat→P) (qo:Int) (K:Nat):Prop where
 acc:0≤qo∧qo≤1000
 vel:∀ k,k≤K→(-200≤(v k).X∧(v k).X≤200)∧(-200≤(v k).Y∧(v k).Y≤200)
 pos:∀ k,k≤K→(-112000≤(x k).X∧(x k).X≤112000)∧(-112000≤(x k).Y∧(x k).Y≤112000)
 step:∀ k,k<K→(x (k+1)).X=(x k).X+(v k).X∧(x (k+1)).Y=(x k).Y+(v k).Y
 turn:∀ k,k<K→Vx ((v (k+1)).X-(v k).X) ((v (k+1)).Y-(v k).Y) qo
theorem Run.veld {x v:Nat→P} {qo:Int} {K:Nat} (h:Run x v qo K) (t:Nat):∀ d:Nat,t+d≤K→Vx ((v (t+d)).X-(v t).X) ((v (t+d)).Y-(v t).Y) (qo*(d:Int))
 | 0,_=>by
  rw[bI,dZ,dZ]
  exact Vx.box (b:=0) (by omega) (by omega) (by simp) (by simp)
 | d+1,hd=>by
  have ih:=Run.veld h t d (by omega)
  have s:=ih.add (h.turn (t+d) (by omega))
  rw[show (v (t+d)).X-(v t).X+((v (t+d+1)).X-(v (t+d)).X)=(v (t+d+1)).X-(v t).X by omega,show (v (t+d)).Y-(v t).Y+((v (t+d+1)).Y-(v (t+d)).Y)=(v (t+d+1)).Y-(v t).Y by omega] at s
  rw[show t+(d+1)=t+d+1 by omega,show qo*((d+1:Nat):Int)=qo*(d:Int)+qo by rw[eQ,Int.mul_add,Int.mul_one]]
  exact s
theorem Run.ahead {x v:Nat→P} {qo:Int} {K:Nat} (h:Run x v qo K) (t:Nat):∀ d:Nat,t+d≤K →
  Vx (2*((x (t+d)).X-(x t).X-(d:Int)*(v t).X)) (2*((x (t+d)).Y-(x t).Y-(d:Int)*(v t).Y)) (qo*(d:Int)*((d:Int)-1))
 | 0,_=>by
  rw[bI]
  refine Vx.box (b:=0) (by simp) (by simp) (by simp) (by simp)
 | d+1,hd=>by
  have ih:=Run.ahead h t d (by omega)
  have s:=ih.add ((Run.veld h t d (by omega)).scale (k:=2) (by omega))
  obtain⟨e1,e2⟩:=h.step (t+d) (by omega)
  rw[show t+(d+1)=t+d+1 by omega,e1,e2]
  have f1:2*((x (t+d)).X-(x t).X-(d:Int)*(v t).X)+2*((v (t+d)).X-(v t).X)=2*((x (t+d)).X+(v (t+d)).X-(x t).X-((d+1:Nat):Int)*(v t).X):=by rw[eQ,gQ];omega
  have f2:2*((x (t+d)).Y-(x t).Y-(d:Int)*(v t).Y)+2*((v (t+d)).Y-(v t).Y)=2*((x (t+d)).Y+(v (t+d)).Y-(x t).Y-((d+1:Nat):Int)*(v t).Y):=by rw[eQ,gQ];omega
  have f3:qo*(d:Int)*((d:Int)-1)+2*(qo*(d:Int))=qo*((d+1:Nat):Int)*(((d+1:Nat):Int)-1):=by rw[eQ];grind
  rw[f1,f2,f3] at s
  exact s
def Knows (f:Za) (p v:P):Prop :=
 Vx (f.Track.At.X-p.X) (f.Track.At.Y-p.Y) f.Track.Radius∧Vx (f.Track.Speed.X-16*v.X) (f.Track.Speed.Y-16*v.Y) f.Slack
end Go.Sky
end
section
namespace Go.Sky
open Go Go.Eng Go.Glue
structure Fol (f:Za) (t:Nat) (h c:Int):Prop where
 inn:f.In
 time:f.Track.Time=(t:Int)
 last:f.Last.Time=(t:Int)
 xo:f.Slack≤10402+100*(t:Int)
 rad:f.Track.Radius≤1000+1100*(t:Int)
 high:f.Track.Height=h∧f.Track.Rate=0∧f.Last.Height=h
 code:f.Track.Code=c
 err:0≤f.Last.Error∧f.Last.Error≤1000
 hits:f.Track.Hits≤(t:Int)+1
structure Cd (s:Zm) (T h c:Int) (p:P):Prop where
 time:s.Time=T
 high:s.Height=h
 code:s.Code=c
 err:0≤s.Error∧s.Error≤1000
 near:Vx (s.At.X-p.X) (s.At.Y-p.Y) s.Error
theorem S3 {s:Zm} {T h c:Int} {p:P} (g:Cd s T h c p) (hT:0≤T∧T≤200000) (hh:0≤h∧h≤60000) (hc:-1≤c∧c≤4095) (hp:(-112000≤p.X∧p.X≤112000)∧(-112000≤p.Y∧p.Y≤112000)):s.In:=by
 have b:=g.near.abs
 have e:=g.err
 exact⟨by rw[g.time];exact hT,⟨by omega,by omega,by omega,by omega⟩,by rw[g.high];exact hh,by rw[g.code];exact hc,by omega⟩
def Vo (f:Zw) (k:Nat):P:=⟨f.at_.X+f.speed.X*(k:Int),f.at_.Y+f.speed.Y*(k:Int)⟩
theorem ER {f:Zw} (h:KG f):Run (Vo f) (fun _=>f.speed) 1 200 where
 acc:=by decide
 vel k _:=by have:=h.vx;have:=h.vy;omega
 pos k hk:=by have:=(GF h (t:=(k:Int)) (by omega)).2;unfold Vo;simp only;omega
 step k _:=by
  unfold Vo
  simp only[eQ,Int.mul_add,Int.mul_one]
  omega
 turn k _:=by
  simp only[dZ]
  exact Vx.box (b:=0) (by omega) (by omega) (by decide) (by decide)
theorem S4 {f:Zw} (h:KG f) {k:Nat} (hk:k≤200):YD f (k:Int)=Vo f k:=(GF h (by omega)).1
end Go.Sky
end
section
namespace Go.Sky
open Go Go.Eng
inductive GH {α β:Type} (R:α→β→Prop):List α→List β→Prop
 | nil:GH R [] []
 | cons {a:α} {b:β} {as1:List α} {bs:List β}:R a b→GH R as1 bs→GH R (a::as1) (b::bs)
section
variable {α β γ:Type} {R:α→β→Prop}
theorem GH.len {as1:List α} {bs:List β} (h:GH R as1 bs):bs.length=as1.length:=by
 induction h with
 | nil=>rfl
 | cons _ _ ih=>rw[aG,aG,ih]
theorem GH.imp {S:α→β→Prop} {as1:List α} {bs:List β} (h:GH R as1 bs) (hi:∀ a∈as1,∀ b∈bs,R a b→S a b):GH S as1 bs:=by
 induction h with
 | nil=>exact .nil
 | cons h1 _ ih=>exact .cons (hi _ (aM ..) _ (aM ..) h1) (ih fun a ha b hb=>hi a (aJ _ ha) b (aJ _ hb))
theorem GH.right {as1:List α} {bs:List β} (h:GH R as1 bs) {b:β} (hb:b∈bs):∃ a∈as1,R a b:=by
 induction h with
 | nil=>cases hb
 | cons h1 _ ih =>
  rcases bA.1 hb with rfl|hb
  ·exact⟨_,aM ..,h1⟩
  ·obtain⟨a,h1,h2⟩:=ih hb
   exact⟨a,aJ _ h1,h2⟩
theorem GH.left {as1:List α} {bs:List β} (h:GH R as1 bs) {a:α} (ha:a∈as1):∃ b∈bs,R a b:=by
 induction h with
 | nil=>cases ha
 | cons h1 _ ih =>
  rcases bA.1 ha with rfl|ha
  ·exact⟨_,aM ..,h1⟩
  ·obtain⟨a,h1,h2⟩:=ih ha
   exact⟨a,aJ _ h1,h2⟩
theorem GH.app {as1 as2:List α} {bs bs2:List β} (h:GH R as1 bs) (g:GH R as2 bs2):GH R (as1++as2) (bs++bs2):=by
 induction h with
 | nil=>exact g
 | cons h1 _ ih=>exact .cons h1 ih
end
end Go.Sky
end
section
namespace Go.Sky
open Go Go.Eng Go.Glue Go.Srt
def K3:Zl:=⟨2,⟨30000,40000⟩,400000,80,3⟩
structure Site (s:Zl):Prop where
 chk:Y7 s=0
 x:-20000≤s.At.X∧s.At.X≤30000
 y:0≤s.At.Y∧s.At.Y≤40000
 reach:s.Reach=400000
 rerr:s.RangeError≤80
 aerr:s.AzimuthError≤3
theorem GI:Site Ks:=⟨by kernel_rfl,by decide,by decide,rfl,by decide,by decide⟩
theorem Hr:Site K3:=⟨by kernel_rfl,by decide,by decide,rfl,by decide,by decide⟩
theorem Uj {s:Zl} (hs:Site s) {f:Zw} (h:KG f) {t:Int} (ht:0≤t∧t≤200):(Z8 s (QD f t)).2=0:=by
 have p:=GF h ht
 have hx:=hs.x;have hy:=hs.y
 refine S0 hs.chk (RZ h ht) ?_
 unfold QD
 simp only
 rw[p.1,hs.reach]
 exact Cb (X:=130000) (Y:=120000) (by unfold PIn;omega) (by unfold PIn;simp only;omega) (by decide) (by simp only;omega) (by simp only;omega) (by decide)
theorem M3 {s:Zl} (hs:Site s) {f:Zw} (h:KG f) {T:Nat} (hT:T≤200) :
  (ZU s (Z8 s (QD f (T:Int))).1).2=0∧Cd (ZU s (Z8 s (QD f (T:Int))).1).1 (T:Int) f.height f.code (Vo f T):=by
 have ht:0≤(T:Int)∧(T:Int)≤200:=by omega
 have hp:=Uj hs h ht
 have hk:=WJ hp
 have hra:=WI hp
 have haz:=VQ hp
 have hpo:=Vl hp
 have pl:=GF h ht
 have hsx:=hs.x;have hsy:=hs.y
 have pi:PIn (QD f (T:Int)).At:=by unfold QD PIn;simp only;rw[pl.1];simp only;omega
 have si:PIn s.At:=by unfold PIn;omega
 have q:=Wa si pi
 have a:=GG (x:=s.At.X-(QD f (T:Int)).At.X) (n:=125000) (by unfold QD;simp only;rw[pl.1];simp only;omega)
 have b:=GG (x:=s.At.Y-(QD f (T:Int)).At.Y) (n:=115000) (by unfold QD;simp only;rw[pl.1];simp only;omega)
 have te:(Z8 s (QD f (T:Int))).1.Range≤175000:=by
  rw[hpo.2.2.2.2]
  have r:=M1 (n:=Yy s.At (QD f (T:Int)).At) (by rw[q.1];exact⟨by omega,q.2⟩)
  simp only
  rcases dI 175000 (Qv (Yy s.At (QD f (T:Int)).At)) with g|g
  ·exfalso
   have:=bX (fD g) (fD g) (by decide) r.1
   rw[q.1] at r this
   omega
  ·exact g
 have hx:=S1 (s:=s) (p:=(Z8 s (QD f (T:Int))).1) hs.chk hk.1 hk.2 ⟨hra.1,by omega⟩ haz (by omega) (by omega)
 have hh:=Cc hp hx
 obtain⟨_,_,_,vx,vy,_,_,_,xi,xe,_,xt,xh,xc⟩:=B7 hx
 have e0:=IX hx
 have re:=hs.rerr;have ae:=hs.aerr;have ae0:=hpo.2.1.aerr
 have m:(Z8 s (QD f (T:Int))).1.Range*s.AzimuthError≤175000*3:=bX te ae (by omega) (by decide)
 refine⟨hx,?_,?_,?_,?_,?_⟩
 ·rw[xt,hpo.2.2.2.2];rfl
 ·rw[xh,hpo.2.2.2.2];rfl
 ·rw[xc,hpo.2.2.2.2];rfl
 ·refine⟨e0.1,?_⟩
  rw[xe]
  omega
 ·have wy:(QD f (T:Int)).At=Vo f T:=S4 h hT
  rw[Md xi pi,wy] at hh
  exact⟨e0.1,hh⟩
def Ce (fs:List Zw) (T:Int) (p:Zr) (s:Zl) (f:Zw):Prop:=(s=Ks∨s=K3)∧f∈fs∧p=(Z8 s (QD f T)).1
theorem B8 {s:Zl} (h:s=Ks∨s=K3):Site s:=by
 rcases h with rfl|rfl
 ·exact GI
 ·exact Hr
theorem OI {p:Zr} {s:Zl} (h:s.ID≠p.Radar) (xs:List Zl) (k:Nat) (out:List Zm):Xc p (s::xs) k out=Xc p xs (k+1) out:=by
 rw[Xc,show (s.ID != p.Radar)=true by simpa using h,cond_true]
theorem Ti {p:Zr} {s:Zl} (h:p.Radar=s.ID) (h0:(ZU s p).2=0) (xs:List Zl) (k:Nat) (out:List Zm):Xc p (s::xs) k out=Xc p xs (k+1) (out ++ [(ZU s p).1]):=by
 rw[Xc,show (s.ID != p.Radar)=false by simp[h],cond_false]
 simp only
 rw[h0]
 rfl
theorem S5 {p:Zr} {s:Zl} (hs:s=Ks∨s=K3) (hr:p.Radar=s.ID) (h0:(ZU s p).2=0) (out:List Zm):Xc p [Ks,K3] 0 out=out ++ [(ZU s p).1]:=by
 rcases hs with rfl|rfl
 ·rw[Ti hr h0,OI (by rw[hr];decide)]
  rfl
 ·rw[OI (by rw[hr];decide),Ti hr h0]
  rfl
theorem FO {fs:List Zw} (hf:∀ f∈fs,KG f) {T:Nat} (hT:T≤200):∀ (pl:List Zr) (k:Nat) (out:List Zm),(∀ p∈pl,∃ s f,Ce fs (T:Int) p s f) →
  ∃ ys,QW [Ks,K3] pl k out=out++ys∧GH (fun p y=>∃ s f,Ce fs (T:Int) p s f∧y=(ZU s p).1) pl ys
 | [],k,out,_=>⟨[],by unfold QW;simp,.nil⟩
 | p::pl,k,out,h=>by
  obtain⟨s,f,hs,hff,hp⟩:=h p (aM ..)
  have ho:=B8 hs
  have hk:=WJ (Uj ho (hf f hff) (t:=(T:Int)) (by omega))
  have hx:=(M3 ho (hf f hff) hT).1
  rw[← hp] at hk hx
  obtain⟨ys,e,q⟩:=FO hf hT pl (k+1) (out ++ [(ZU s p).1]) fun p hp=>h p (aJ _ hp)
  refine⟨_::ys,?_,.cons ⟨s,f,⟨hs,hff,hp⟩,rfl⟩ q⟩
  unfold QW Xq
  simp only
  rw[S5 hs hk.2 hx,e,aT]
  rfl
theorem FP:∀ (xs:List Zr) (k:Nat),(∀ p∈xs,Yz p=0)→Qw xs k=.inl ()
 | [],k,_=>rfl
 | x::xs,k,h=>by
  rw[Qw]
  try simp only
  rw[h x aM]
  simp only[bne_self_eq_false,cond_false]
  exact FP xs (k+1) fun p hp=>h p (aJ _ hp)
def XX (s:Zl) (fs:List Zw) (T:Int):List Zr:=fs.map fun f=>(Z8 s (QD f T)).1
theorem LO {fs:List Zw} (hf:∀ f∈fs,KG f) {T:Nat} (hT:T≤200) {s:Zl} (hs:Site s) {p:Zr} (hp:p∈XX s fs (T:Int)):Yz p=0∧p.Time=(T:Int):=by
 obtain⟨f,h,rfl⟩:=bT.1 hp
 have h0:=Uj hs (hf f h) (t:=(T:Int)) (by omega)
 exact⟨(WJ h0).1,by rw[(Vl h0).2.2.2.2];rfl⟩
end Go.Sky
end
section
namespace Go.Sky
open Go Go.Eng Go.Glue Go.Srt
def DJ (t:Zi) (r2:List Zm×Int) (time:Int):(List Track)×Int×Zi :=
 Xq (cond (decide (t.last≥0)) (ZC 60000 (w64 (500+(w64 (200*(w64 (time-t.last))))))) 60000) (fun qd =>
  Xq (ZX t time t.all 0 ([]:List Track) ([]:List followed)) (fun (zw,q7) =>
   let r4:=XK zw r2.1 qd
   let r5:=XF r4.1 2147483648
   Xq (Yf t r2 r5 q7 0 (List.replicate ((r2.1.length:Int).toNat) false) ([]:List followed)) (fun (zb,qt) =>
    Xq (Yn zb r2.1 0 t.next qt) (fun (zc,jy) =>
     let r10:=ZF (⟨t.rules,jy,zc,time⟩:Zi)
     let r11:=ZV r10 time
     Xq (YY r11.all 0 ([]:List Track)) (fun ql=>(ql,0,r11))))))
theorem Tj {t:Zi} {l:List Zm} {time:Int} (h:Yb t l time=0):Z5 t l time=DJ t (YA l 500) time:=by
 unfold Z5
 dsimp only
 rw[h,show ((0:Int) != 0)=false from rfl,cond_false]
 rfl
theorem FQ {s:Zm} {time:Int} (h:s.In∧s.Time=time):YA [s] 500=([s],0):=by
 rw[Dy (time:=time) (by simp) (fun x hx=>by rw[aV.1 hx];exact h),show Gs [s]=[s] from List.mergeSort_singleton ..]
 rfl
theorem Cf:Q0=true:=by
 unfold Q0
 dsimp only
 have h0:Z5 (YX XV).1 [(⟨0,⟨0,0⟩,0,5,10⟩:Zm)] 0=DJ (YX XV).1 ([⟨0,⟨0,0⟩,0,5,10⟩],0) 0:=by
  rw[Tj (by kernel_rfl),FQ ⟨KD.1 (by kernel_rfl),rfl⟩]
 rw[h0]
 have h1:Z5 (DJ (YX XV).1 ([⟨0,⟨0,0⟩,0,5,10⟩],0) 0).2.2 [(⟨4,⟨0,0⟩,0,5,10⟩:Zm)] 4=DJ (DJ (YX XV).1 ([⟨0,⟨0,0⟩,0,5,10⟩],0) 0).2.2 ([⟨4,⟨0,0⟩,0,5,10⟩],0) 4:=by
  rw[Tj (by kernel_rfl),FQ ⟨KD.1 (by kernel_rfl),rfl⟩]
 rw[h1]
 exact Kr
end Go.Sky
end
section
namespace Go.Sky
open Go Go.Eng Go.Glue Go.Srt
structure Has (f:Zw) (x:Za) (t0:Nat):Prop where
 fol:Fol x t0 f.height f.code
 knows:Knows x (Vo f t0) f.speed
 near:Vx (x.Last.At.X-(Vo f t0).X) (x.Last.At.Y-(Vo f t0).Y) x.Last.Error
def setSt (x:Za) (st mi:Int):Za :=
 ⟨⟨x.Track.ID,st,x.Track.Time,x.Track.At,x.Track.Speed,x.Track.Height,x.Track.Rate,x.Track.Radius,x.Track.Code,x.Track.Hits,mi⟩,x.Slack,x.Last⟩
theorem Has.set {f:Zw} {x:Za} {t0:Nat} (h:Has f x t0) {st mi:Int} (h1:0≤st∧st≤2) (h2:0≤mi):Has f (setSt x st mi) t0:=by
 obtain⟨⟨⟨a1,a2,a3,a4,a5,⟨a6,a7,a8⟩,a9,a10,a11⟩,b1,b2,b3,b4,b5,b6,b7,b8⟩,k,n⟩:=h
 exact⟨⟨⟨a1,a2,a3,a4,a5,⟨a6,a7,h2⟩,h1,a10,a11⟩,b1,b2,b3,b4,b5,b6,b7,b8⟩,k,n⟩
theorem OJ {l:List Int} (h:l.Nodup) {i j:Nat} {a:Int} (hi:l[i]?=some a) (hj:l[j]?=some a):i=j:=by
 obtain⟨h1,e1⟩:=aK.1 hi
 obtain⟨h2,e2⟩:=aK.1 hj
 have p:=eR.1 h
 rcases fC i j with g|g|g
 ·exact absurd (e1.trans e2.symm) (p i j h1 h2 g)
 ·exact g
 ·exact absurd (e2.trans e1.symm) (p j i h2 h1 g)
theorem OK {α:Type} {l:List α} {c:α→Int} (h:(l.map c).Nodup) {a b:α} (ha:a∈l) (hb:b∈l) (e:c a=c b):a=b:=by
 obtain⟨i,hi⟩:=cQ ha
 obtain⟨j,hj⟩:=cQ hb
 have:=OJ h (i:=i) (j:=j) (a:=c a) (by rw[cK,hi];rfl) (by rw[cK,hj,e];rfl)
 subst this
 rw[hi] at hj
 exact cU hj
end Go.Sky
end
section
namespace Go.Sky
open Go Go.Eng Go.Glue Go.Srt
theorem FR {f:Zw} (h:KG f):(0≤f.height∧f.height≤60000)∧(0≤f.code∧f.code≤4095):=by
 have:=h.h;have:=h.c;omega
theorem OL {f:Zw} (h:KG f) {k:Nat} (hk:k≤200):(-112000≤(Vo f k).X∧(Vo f k).X≤112000)∧(-112000≤(Vo f k).Y∧(Vo f k).Y≤112000):=(ER h).pos k hk
def OfF (gs:List Zw) (T:Nat) (s:Zm):Prop:=∃ f∈gs,Cd s (T:Int) f.height f.code (Vo f T)
theorem Ci {gs:List Zw} (hf:∀ f∈gs,KG f) {T:Nat} (hT:T≤200) {s:Zm} (h:OfF gs T s):s.In∧s.Time=(T:Int)∧s.Code ≠ -1:=by
 obtain⟨f,h1,h2⟩:=h
 have a:=FR (hf f h1)
 exact⟨S3 h2 (by omega) a.1 (by omega) (OL (hf f h1) hT),h2.time,by rw[h2.code];omega⟩
theorem S7 {a b:Zm} {qd:Int} (h:a.Code≠b.Code):Qo a b qd=false:=by
 unfold Qo
 rw[show (a.Code==b.Code)=false by simpa using h,Bool.and_false,fW,cond_false]
theorem OM {gs:List Zw} (hf:∀ f∈gs,KG f) (hn:(gs.map fun f=>f.code).Nodup) {T:Nat} (hT:T≤200) {a b:Zm} (ha:OfF gs T a) (hb:OfF gs T b) (hc:a.Code=b.Code):Qo a b 500=true:=by
 have ia:=Ci hf hT ha
 have ib:=Ci hf hT hb
 obtain⟨f,h1,h2⟩:=ha
 obtain⟨g,h3,h4⟩:=hb
 have e:f=g:=OK (c:=fun f=>f.code) hn h1 h3 (by rw[← h2.code,← h4.code];exact hc)
 subst e
 have ea:=h2.err
 have eb:=h4.err
 have w:Y3 a.At b.At (w64 (a.Error+b.Error))=true:=by
  rw[Zu (by omega),within_iff ia.1.2.1 ib.1.2.1 (by omega),decide_eq_true_eq]
  have q:=h2.near.add h4.near.neg
  refine⟨by omega,?_⟩
  have q2:=q.2
  rw[show a.At.X-(Vo f T).X + -(b.At.X-(Vo f T).X)=a.At.X-b.At.X by omega,show a.At.Y-(Vo f T).Y + -(b.At.Y-(Vo f T).Y)=a.At.Y-b.At.Y by omega] at q2
  exact q2
 unfold Qo
 rw[show (a.Time==b.Time)=true by rw[ia.2.1,ib.2.1];simp,show (a.Code==b.Code)=true by simpa using hc,show (a.Code != -1)=true by simpa using ia.2.2]
 simp only[Bool.and_true,cond_true]
 rw[w,cond_true,h2.high,h4.high]
 unfold Vv
 rw[dZ]
 rfl
theorem Wu {c0:Zm} {c1:Int}:∀ (xs:List Zm) (k:Nat),(∀ y∈xs,Qo y c0 c1=false)→Qe c0 c1 xs k=.inl ()
 | [],_,_=>rfl
 | x::xs,k,h=>by
  unfold Qe
  simp only
  rw[show KA x c0 c1=Qo x c0 c1 from rfl,h x (aM ..),cond_false]
  exact Wu xs (k+1) fun y hy=>h y (aJ _ hy)
theorem Wv {c0:Zm} {c1:Int} {y:Zm} (hy:Qo y c0 c1=true):∀ (xs:List Zm) (k:Nat),y∈xs→∃ j:Nat,Qe c0 c1 xs k=.inr (j:Int)
 | [],_,h=>by cases h
 | x::xs,k,h=>by
  unfold Qe
  simp only
  rw[show KA x c0 c1=Qo x c0 c1 from rfl]
  cases hx:Qo x c0 c1 with
  | true=>exact⟨k,rfl⟩
  | false =>
   rw[cond_false]
   rcases bA.1 h with rfl|h
   ·rw[hy] at hx;cases hx
   ·exact Wv hy xs (k+1) h
theorem M4 {gs:List Zw} (hf:∀ f∈gs,KG f) (hn:(gs.map fun f=>f.code).Nodup) {T:Nat} (hT:T≤200):∀ (xs:List Zm) (k:Nat) (out:List Zm),(∀ s∈out,OfF gs T s)→(∀ s∈xs,OfF gs T s)→(out.map Zm.Code).Nodup →
  ∃ r,Qg 500 xs k out=r∧(∀ s∈r,OfF gs T s)∧r.length≤out.length+xs.length∧(r.map Zm.Code).Nodup∧(∀ s∈out,s∈r)∧∀ s∈xs,∃ z∈r,z.Code=s.Code
 | [],_,out,h1,_,h3=>⟨out,rfl,h1,aR _,h3,fun _ h=>h,fun _ h=>by cases h⟩
 | x::xs,k,out,h1,h2,h3=>by
  have hx:=h2 x (aM ..)
  have hxs:=fun s hs=>h2 s (aJ _ hs)
  unfold Qg
  simp only
  by_cases hc:∃ y∈out,y.Code=x.Code
  ·obtain⟨y,hy,hyc⟩:=hc
   obtain⟨j,hj⟩:=Wv (OM hf hn hT (h1 y hy) hx hyc) out 0 hy
   rw[show XI out x 500=true by unfold XI Jp;simp only;rw[hj];simp]
   rw[dK,cond_false]
   obtain⟨r,e,r1,r2,r3,r4,r5⟩:=M4 hf hn hT xs (k+1) out h1 hxs h3
   refine⟨r,e,r1,by rw[aG];omega,r3,r4,fun s hs=>?_⟩
   rcases bA.1 hs with rfl|hs
   ·exact⟨y,r4 y hy,hyc⟩
   ·exact r5 s hs
  ·have hc:∀ y∈out,y.Code≠x.Code:=fun y hy e=>hc ⟨y,hy,e⟩
   rw[show XI out x 500=false by unfold XI Jp;simp only;rw[Wu out 0 fun y hy=>S7 (hc y hy)];rfl]
   rw[eO,cond_true]
   obtain⟨r,e,r1,r2,r3,r4,r5⟩:=M4 hf hn hT xs (k+1) (out ++ [x]) (fun s hs=>by
    rcases bD.1 hs with hs|hs
    ·exact h1 s hs
    ·rw[aV.1 hs];exact hx) hxs (by
    rw[dD,List.map_singleton]
    refine cY.2 ⟨h3,List.pairwise_singleton _ _,fun a ha b hb=>?_⟩
    rw[aV.1 hb]
    obtain⟨y,hy,rfl⟩:=bT.1 ha
    exact hc y hy)
   refine⟨r,e,r1,by rw[aG];rw[aI,fI] at r2;omega,r3,fun s hs=>r4 s (bD.2 (.inl hs)),fun s hs=>?_⟩
   rcases bA.1 hs with rfl|hs
   ·exact⟨s,r4 s (bD.2 (.inr (aV.2 rfl))),rfl⟩
   ·exact r5 s hs
theorem Cj {gs:List Zw} (hf:∀ f∈gs,KG f) (hn:(gs.map fun f=>f.code).Nodup) {T:Nat} (hT:T≤200) {l:List Zm} (hl:l.length≤31) (h:∀ s∈l,OfF gs T s) :
  ∃ r,YA l 500=(r,0)∧r.length≤31∧(∀ s∈r,OfF gs T s)∧(r.map Zm.Code).Nodup∧∀ s∈l,∃ z∈r,z.Code=s.Code:=by
 have hp:(Gs l).Perm l:=List.mergeSort_perm ..
 obtain⟨r,e,r1,r2,r3,_,r5⟩:=M4 hf hn hT (Gs l) 0 [] (fun _ h=>by cases h) (fun s hs=>h s (hp.mem_iff.1 hs)) .nil
 refine⟨r,?_,by rw[hp.length_eq,bJ] at r2;omega,r1,r3,fun s hs=>r5 s (hp.mem_iff.2 hs)⟩
 rw[Dy (by omega) (fun s hs=>by have:=Ci hf hT (h s hs);exact⟨this.1,this.2.1⟩),e]
end Go.Sky
end
section
namespace Go.Sky
open Go Go.Eng Go.Glue Go.Srt
theorem LP (v:Int):∀ (l:List Int) (k:Nat),Xa v l k=.inl ()∧v ∉ l∨∃ j:Nat,Xa v l k=.inr (j:Int)
 | [],_=>.inl ⟨rfl,List.not_mem_nil⟩
 | x::xs,k=>by
  unfold Xa
  cases h:(v==x) with
  | true=>exact .inr ⟨k,rfl⟩
  | false =>
   rw[cond_false]
   have hx:v≠x:=by simpa using h
   rcases LP v xs (k+1) with ⟨e,hn⟩|h
   ·exact .inl ⟨e,fun hm=>(bA.1 hm).elim hx hn⟩
   ·exact .inr h
theorem LQ {v:Int} {l:List Int} (h:YH l v=false):v ∉ l:=by
 unfold YH XW at h
 simp only at h
 rcases LP v l 0 with ⟨_,hn⟩|⟨j,e⟩
 ·exact hn
 ·rw[e] at h
  have h2:¬ ((j:Int)≥0):=of_decide_eq_false h
  omega
theorem IY (s:ByteArray) (i:Nat) (hi:i<s.size):bat s i∈lb s:=by
 have h:i<s.data.size:=hi
 unfold bat lb
 rw[bW h,cX]
 exact bT.2 ⟨s.data[i],Array.getElem_mem_toList h,rfl⟩
theorem ON {s:ByteArray} (h:YH (lb s) 83=false):∀ i,i<s.size→bat s i≠83:=fun i hi e=>by
 have:=IY s i hi
 rw[e] at this
 exact LQ h this
theorem M5 {s:Zl} (hs:Site s):∀ (xs:List Zw) (k:Nat) (feed:List Zr),(∀ f∈xs,KG f)→XM s xs k feed=.inl (feed++XX s xs ((8:Nat):Int))
 | [],_,feed,_=>by unfold XM XX;simp
 | f::xs,k,feed,h=>by
  have h0:=Uj hs (h f (aM ..)) (t:=((8:Nat):Int)) (by omega)
  unfold XM
  simp only
  rw[show (⟨8,YD f 8,f.height,f.code,0⟩:Zm)=QD f ((8:Nat):Int) from rfl,h0,show ((0:Int) != 0)=false from rfl,cond_false,M5 hs xs (k+1) _ fun f hf=>h f (aJ _ hf)]
  unfold XX
  simp
theorem S8 {s:Zl} (hs:Site s) {f:Zw} (h:KG f) {p:Zr} (hp:p=(Z8 s (QD f ((8:Nat):Int))).1):p.Radar=s.ID∧p.Time=8∧(0≤p.Range∧p.Range≤2000000)∧(0≤p.Azimuth∧p.Azimuth≤4095)∧(0≤p.Height∧p.Height≤60000)∧(-1≤p.Code∧p.Code≤4095):=by
 subst hp
 have h0:=Uj hs h (t:=((8:Nat):Int)) (by omega)
 have a:=WI h0
 have b:=VQ h0
 obtain⟨_,_,_,_,e⟩:=Vl h0
 have fi:=FR h
 have e1:(Z8 s (QD f ((8:Nat):Int))).1.Radar=s.ID:=by rw[e]
 have e2:(Z8 s (QD f ((8:Nat):Int))).1.Time=8:=by rw[e];rfl
 have e3:(Z8 s (QD f ((8:Nat):Int))).1.Height=f.height:=by rw[e];rfl
 have e4:(Z8 s (QD f ((8:Nat):Int))).1.Code=f.code:=by rw[e];rfl
 exact⟨e1,e2,⟨a.1,by omega⟩,b,by omega,by omega⟩
theorem Tm {g:Zs}:∀ (xs:List Zr) (k:Nat),(∀ p∈xs,p.Radar=g.Radar∧p.Time=g.Time∧(0≤p.Range∧p.Range≤2000000)∧(0≤p.Azimuth∧p.Azimuth≤4095)∧(0≤p.Height∧p.Height≤60000)∧(-1≤p.Code∧p.Code≤4095))→Qh g xs k=.inl ()
 | [],_,_=>rfl
 | p::xs,k,h=>by
  obtain⟨h1,h2,h3,h4,h5,h6⟩:=h p (aM ..)
  unfold Qh
  rw[show ((p.Radar != g.Radar)||(p.Time != g.Time))=false by simp[h1,h2],cond_false,
   decide_eq_false (show ¬ p.Range<0 by omega),decide_eq_false (show ¬ p.Range>2000000 by omega),decide_eq_false (show ¬ p.Azimuth<0 by omega),decide_eq_false (show ¬ p.Azimuth>4095 by omega),
   decide_eq_false (show ¬ p.Height<0 by omega),decide_eq_false (show ¬ p.Height>60000 by omega),decide_eq_false (show ¬ p.Code < -1 by omega),decide_eq_false (show ¬ p.Code>4095 by omega)]
  exact Tm xs (k+1) fun p hp=>h p (aJ _ hp)
theorem LR {s:Zl} (hs:Site s) (hid:0≤s.ID∧s.ID≤255) {fs:List Zw} (hf:∀ f∈fs,KG f) (hn:fs.length≤3):(YF ⟨s.ID,8,XX s fs ((8:Nat):Int)⟩).2=0:=by
 have hl:(XX s fs ((8:Nat):Int)).length=fs.length:=aF ..
 have hc:Xm ⟨s.ID,8,XX s fs ((8:Nat):Int)⟩=0:=by
  unfold Xm
  simp only
  rw[decide_eq_false (show ¬ ((XX s fs ((8:Nat):Int)).length:Int)>32 by omega),cond_false,decide_eq_false (show ¬ s.ID<0 by omega),decide_eq_false (show ¬ s.ID>255 by omega),
   Tm _ 0 fun p hp=>by
    obtain⟨f,hff,e⟩:=bT.1 hp
    exact S8 hs (hf f hff) e.symm]
  rfl
 rcases GZ ⟨s.ID,8,XX s fs ((8:Nat):Int)⟩ with ⟨e,_,h1,h2⟩|⟨_,_,h⟩
 ·exact absurd (h2.symm.trans hc) h1
 ·rw[h]
theorem OO {s:ByteArray} {n:Nat} {fs:List Zs} (hp:Par s n fs) (hs:s.size≤131072):Q7 s=(fs,(n:Int),⟨#[]⟩,0):=by
 have hn:=hp.len
 have hd:(ZE ⟨#[]⟩).2.2=8:=FK (fun h=>absurd h (by decide)) (fun h=>absurd h (by decide)) (fun h=>absurd h (by decide))
 have e0:s++(⟨#[]⟩:ByteArray)=s:=by
  apply ByteArray.ext
  rw[ByteArray.data_append]
  exact Array.append_empty
 have wk:=hp.run ⟨#[]⟩ (s.size-n-fs.length+1) [] 0 (by omega)
 rw[e0,bB,cO,show n+fs.length+(s.size-n-fs.length+1)=s.size+1 by omega] at wk
 unfold Q7
 rw[decide_eq_false (by omega),cond_false]
 rw[show ((0:Nat):Int)=0 from rfl] at wk
 rw[wk]
 conv=>lhs;unfold YN
 simp only
 rw[hd,show ((8:Int)==0)=false from rfl,cond_false,show ((8:Int)==8)=true from rfl,cond_true]
 rfl
theorem LS {s x:ByteArray} {n:Nat} {fs:List Zs} (hp:Par s n fs) (hx:∀ i,i<x.size→bat x i≠83) {f:Zs} (h:(YF f).2=0):Par ((s++x)++(YF f).1) (n+x.size) (fs ++ [f]):=by
 obtain⟨l,t,q,w⟩:=O8 (f:=f) (by rw[h];rfl)
 rw[w.enc]
 have:=(hp.app (Par.noise hx)).app (Par.frame w)
 rwa [bS,bI] at this
theorem ES:seq (⟨#[]⟩:ByteArray) ⟨#[]⟩=true:=LK _
theorem Cm (a b:List Zr):Yx [a,b]=a++b:=by
 unfold Yx Xq
 simp only
 generalize YU [a,b] 0 0=n
 have:Yi n=[]:=List.length_eq_zero_iff.1 (J1 rfl)
 rw[this]
 rfl
theorem Ff (p:Zm):Zm.eqb p p=true:=by rw[Zm.eqb_eq,decide_eq_true rfl]
theorem DK {s:List Zm}:∀ (xs:List Zm) (k:Nat),s.drop k=xs→Y9 s xs k=.inl ()
 | [],_,_=>rfl
 | x::xs,k,hd=>by
  have d1:s.drop (k+1)=xs:=by rw[← eL,hd];rfl
  have d2:s[k]?=some x:=by
   have:(s.drop k)[0]?=some x:=by rw[hd];rfl
   rwa [cV,bI] at this
  unfold Y9
  rw[d2,cX,Ff,dK,cond_false]
  exact DK xs (k+1) d1
theorem LU (s:List Zm):Y1 s s=true:=by
 unfold Y1
 rw[bne_self_eq_false,cond_false,DK s 0 eM]
 rfl
theorem C0 {fs:List Zw} (h:Fls fs):∃ ys r,Xr [Ks,K3] (XX Ks fs ((8:Nat):Int)++XX K3 fs ((8:Nat):Int))=(ys,0)∧YA ys 500=(r,0)∧r.length=fs.length:=by
 have hf:=h.fly
 have hn:=h.len
 have q1:=fun p (hp:p∈XX Ks fs ((8:Nat):Int))=>LO hf (T:=8) (by decide) GI hp
 have q2:=fun p (hp:p∈XX K3 fs ((8:Nat):Int))=>LO hf (T:=8) (by decide) Hr hp
 have l1:(XX Ks fs ((8:Nat):Int)).length=fs.length:=aF ..
 have l2:(XX K3 fs ((8:Nat):Int)).length=fs.length:=aF ..
 obtain⟨pl,hpl⟩:∃ pl,pl=XX Ks fs ((8:Nat):Int)++XX K3 fs ((8:Nat):Int):=⟨_,rfl⟩
 have hlen:pl.length≤6:=by rw[hpl,aI];omega
 have hin:∀ p∈pl,p∈XX Ks fs ((8:Nat):Int)∨p∈XX K3 fs ((8:Nat):Int):=fun p hp=>bD.1 (by rw[← hpl];exact hp)
 have his:∀ p∈pl,∃ s f,Ce fs ((8:Nat):Int) p s f:=fun p hp=>by
  rcases hin p hp with h|h
  ·obtain⟨f,h',rfl⟩:=bT.1 h;exact⟨Ks,f,.inl rfl,h',rfl⟩
  ·obtain⟨f,h',rfl⟩:=bT.1 h;exact⟨K3,f,.inr rfl,h',rfl⟩
 obtain⟨ys,e,q⟩:=FO hf (T:=8) (by decide) pl 0 [] his
 have hsp:Xr [Ks,K3] pl=(ys,0):=by
  unfold Xr
  have c:X1 pl=0:=by
   unfold X1
   rw[decide_eq_false (by omega),cond_false,FP pl 0 fun p hp=>by
    rcases hin p hp with h|h
    ·exact(q1 p h).1
    ·exact(q2 p h).1]
   rfl
  rw[show QH [Ks,K3]=0 by kernel_rfl,c]
  simp only[bne_self_eq_false,cond_false]
  unfold Xq
  rw[e]
  rfl
 have hof:∀ s∈ys,OfF fs 8 s:=fun s hs=>by
  obtain⟨p,hp,s',f,⟨h1,h2,rfl⟩,rfl⟩:=q.right hs
  exact⟨f,h2,(M3 (B8 h1) (hf f h2) (T:=8) (by decide)).2⟩
 obtain⟨r,r1,_,r3,r4,r5⟩:=Cj hf h.code (T:=8) (by decide) (l:=ys) (by rw[q.len];omega) hof
 refine⟨ys,r,by rw[← hpl];exact hsp,r1,?_⟩
 have cy:(r.map Zm.Code).Perm (fs.map fun f=>f.code):=by
  refine(List.perm_ext_iff_of_nodup r4 h.code).2 fun a=>⟨fun ha=>?_,fun ha=>?_⟩
  ·obtain⟨s,hs,rfl⟩:=bT.1 ha
   obtain⟨f,hff,g⟩:=r3 s hs
   exact bT.2 ⟨f,hff,g.code.symm⟩
  ·obtain⟨f,hff,rfl⟩:=bT.1 ha
   have hp:(Z8 Ks (QD f ((8:Nat):Int))).1∈pl:=by
    rw[hpl]
    exact bD.2 (.inl (bT.2 ⟨f,hff,rfl⟩))
   obtain⟨y,hy,s',f',⟨h1,h2,h3⟩,h4⟩:=q.left hp
   obtain⟨z,hz,hzc⟩:=r5 y hy
   refine bT.2 ⟨z,hz,?_⟩
   have g:=(M3 (B8 h1) (hf f' h2) (T:=8) (by decide)).2
   rw[← h3] at g
   rw[hzc,h4,g.code]
   have c1:=Vl (Uj GI (hf f hff) (t:=((8:Nat):Int)) (by omega))
   have c2:=Vl (Uj (B8 h1) (hf f' h2) (t:=((8:Nat):Int)) (by omega))
   have:=congrArg Zr.Code h3
   rw[c1.2.2.2.2,c2.2.2.2.2] at this
   exact this.symm
 have:=cy.length_eq
 rwa [aF,aF] at this
theorem M6 (l:List Int) (noise:ByteArray) {a b c:Prop} (_s:a) (_k0:b) (_k1:c):X3 l noise=true:=by
 unfold X3
 simp only
 rw[Cf,dK,cond_false]
 obtain⟨x,hx⟩:∃ x,x=noise.extract 0 (ZC (noise.size:Int) 40).toNat:=⟨_,rfl⟩
 have hx40:x.size≤40:=by rw[hx];exact K2 noise
 cases hc:YH (lb (noise.extract 0 (ZC (noise.size:Int) 40).toNat)) 83
 case true=>rfl
 rw[cond_false]
 have hno:∀ i,i<x.size→bat x i≠83:=by rw[hx];exact ON hc
 have hF:=O5 l
 generalize Xl l=fs at hF ⊢
 have e1:=LR GI (by decide) hF.fly hF.len
 have e2:=LR Hr (by decide) hF.fly hF.len
 obtain⟨ys,r,m1,m2,m3⟩:=C0 hF
 rw[show Xi=[Ks,K3] from rfl]
 unfold XN XN XN
 rw[M5 GI fs 0 [] hF.fly,M5 Hr fs 0 [] hF.fly]
 simp only[Sum.elim_inl,cO]
 rw[← hx,e1,e2]
 simp only[show ((0:Int) != 0)=false from rfl,cond_false,Sum.elim_inl]
 have hp:=LS (LS Par.nil hno e1) hno e2
 have b1:=Je (f:=⟨Ks.ID,8,XX Ks fs ((8:Nat):Int)⟩) rfl
 have b2:=Je (f:=⟨K3.ID,8,XX K3 fs ((8:Nat):Int)⟩) rfl
 have hsc:=OO hp (by simp only[ByteArray.size_append];have h0:(⟨#[]⟩:ByteArray).size=0:=rfl;omega)
 rw[hsc]
 simp only[cO,List.singleton_append,aG,bJ]
 rw[Zu (x:=2*(x.size:Int)) (by omega),show ((0+x.size+x.size:Nat):Int)=2*(x.size:Int) by omega,ES]
 simp only[bne_self_eq_false,Bool.false_or,dK]
 rw[show (((0+1+1:Nat):Int) != 2)=false from rfl,cond_false]
 show cond _ _ _=true
 rw[show (([⟨Ks.ID,8,XX Ks fs ((8:Nat):Int)⟩,⟨K3.ID,8,XX K3 fs ((8:Nat):Int)⟩]:List Zs)[0]?.getD Zs.zero).Plots=XX Ks fs ((8:Nat):Int) from rfl,
  show (([⟨Ks.ID,8,XX Ks fs ((8:Nat):Int)⟩,⟨K3.ID,8,XX K3 fs ((8:Nat):Int)⟩]:List Zs)[1]?.getD Zs.zero).Plots=XX K3 fs ((8:Nat):Int) from rfl]
 rw[Cm,m1]
 simp only
 rw[m2]
 simp only[beq_self_eq_true,Bool.and_self,cond_true]
 rw[LU,m3]
 simp
end Go.Sky
end
section
namespace Go.Glue
open Go.ChangeShapes Go.WideShapes Go.ChangeAt Go.RowKit Go.Eng Go.ChangeMaps
variable {H:Type} {enc:TypeId×Value→H} {P:Program} {W:World} {base b0:Nat} {sp:Nat→Bool} {hd:Bool} {t:TypeId} {v:Value} {d:DataW H} {p:List MemPlace}
theorem C2 (ht:P.underlying t=some .string) (ju:Value.okWide P W .any b0 t v) (h:DataW.Trod enc P W base sp hd t v d p) (hw:∀ n∈d.weights P t,n≤reachBytes):∃ s,v=.string s∧s.size≤140737488351232:=by
 obtain⟨s,rfl,rfl,_,_⟩:=open_string ht ju h
 refine⟨s,rfl,?_⟩
 have:=hw s.data.toList.length (by simp[DataW.weights])
 rw[aX] at this
 exact bH this (by decide)
end Go.Glue
end
section
namespace Go.Glue
open Go.ChangeShapes Go.WideShapes Go.ChangeAt Go.RowKit Go.Eng
theorem OP {H:Type} {enc:TypeId×Value→H} {P:Program} {w:World} {base:Nat} {sp:Nat→Bool} {held:Bool} {fuel:Nat} {t:TypeId} {cs:List Value} {x:DataW H×List MemPlace}
  (ht:P.underlying t=some (.float .f64)) (h:DataW.trod enc P w base sp held fuel t cs=some x):∃ n,cs=[.float .f64 n]∧x=(.lit (.float .f64 n),[]):=by
 cases fuel with
 | zero=>simp[DataW.trod] at h
 | succ n =>
  unfold DataW.trod at h
  rw[ht] at h
  split at h <;> simp_all
theorem S9 {H:Type} {enc:TypeId×Value→H} {P:Program} {w:World} {base:Nat} {sp:Nat→Bool} {held:Bool} {fuel:Nat} {t e:TypeId} {n:Nat} {cs:List Value} {zs:List Nat} {p:List MemPlace}
  (ht:P.underlying t=some (.array n e)) (he:P.underlying e=some (.float .f64)) (hce:P.cellsOf e=1) (hct:P.cellsOf t=n)
  (h:DataW.trod enc P w base sp held fuel t cs=some (.agg (zs.map fun z=>(DataW.lit (.float .f64 z):DataW H)),p)):∀ (i:Nat) (z:Nat),zs[i]?=some z→cs[i]?=some (Value.float .f64 z):=by
 cases fuel with
 | zero=>simp[DataW.trod] at h
 | succ fuel =>
  simp only[DataW.trod,ht,hce,hct,Nat.mul_one] at h
  split at h
  ·obtain⟨xs,hm,hx⟩:=Option.map_eq_some_iff.1 h
   intro i z hz
   have e1:xs.map (·.1)=zs.map fun z=>(DataW.lit (.float .f64 z):DataW H):=by simpa using congrArg Prod.fst hx
   have hl:=Lib.mapM_length hm
   rw[List.length_range] at hl
   have l2:xs.length=zs.length:=by simpa using congrArg List.length e1
   have hi:i<n:=by have:=(aK.1 hz).1;omega
   obtain⟨b,hb,hf⟩:=Lib.mapM_at hm i i (by simp[hi])
   obtain⟨y,hc,rfl⟩:=OP he hf
   have h1:cs[i]?=some (Value.float .f64 y):=by
    have h:=congrArg (fun l=>l[0]?) hc
    rw[eC (by decide),cV,bI] at h
    exact h
   have h2:(xs.map (·.1))[i]?=some (DataW.lit (.float .f64 y):DataW H):=by simp[hb]
   rw[e1] at h2
   simp[hz] at h2
   rw[h1,h2]
  ·cases h
theorem OQ {P:Program} {W:World} {name:String} {zs:List Nat} {g:Nat} {t e:TypeId} {n:Nat} (hg:P.globalNamed name=some g) (hty:(P.globals[g]?).map (·.type)=some t) (ht:P.underlying t=some (.array n e)) (he:P.underlying e=some (.float .f64)) (hce:P.cellsOf e=1) (hct:P.cellsOf t=n)
  (h:∃ (g':Nat) (t':TypeId) (cs:Array Value) (fuel:Nat) (p:List MemPlace),P.globalNamed name=some g'∧(P.globals[g']?).map (·.type)=some t'∧W.var? P name=some cs∧DataW.trod (H:=Unit) (fun _=>()) P W 0 (fun _=>true) false fuel t' cs.toList=some (.agg (zs.map fun z=>(DataW.lit (.float .f64 z):DataW Unit)),p))
  (h0:0<zs.length):Rn W g zs:=by
 obtain⟨g',t',cs,fuel,p,hg',ht',ax,hd⟩:=h
 obtain rfl:=cU (hg.symm.trans hg')
 obtain rfl:=cU (hty.symm.trans ht')
 have hc:=S9 ht he hce hct hd
 have cell:∀ (i z:Nat),zs[i]?=some z→W.cell? ⟨g,i,none⟩=some (.float .f64 z):=fun i z hz=>by
  have a:=World.var?_cell hg ax i
  have b:=hc i z hz
  rw[aZ] at b
  rw[a,b]
 refine⟨?_,cell⟩
 have:=cell 0 (zs[0]'h0) (aS h0)
 unfold World.cell? at this
 cases hb:W.heap[(⟨g,0,none⟩:Addr).block]? with
 | none=>rw[hb] at this;cases this
 | some o=>exact(bY.1 hb).1
section
variable {H:Type} {enc:TypeId×Value→H}
theorem Zaa {C:Checked} {os:Os} {f:FuncId} {fn:Func} {s:ChangeSpec} {tb:TypeId} {L:List (String×DataW Unit)} (hX:∀ w w':World,w.heap=w'.heap→laidMetH C.prog L w→laidMetH C.prog L w') (own:ownKnob C.prog.godebug=none) (started:os.Started) (tf:C.prog.inits.idxOf? f=none) (hfn:C.prog.funcs[f]?=some fn)
  (hl:laidOutB C.prog=true) (cz:fn.params.toList.all (fun t=>C.prog.readableRec t&&decide (t<C.prog.types.size))=true) (hv:s.vars=[]) (fg:fn.resultTypes=#[tb]) (htb:C.prog.underlying tb=some .bool)
  (hs:∀ ds:List (DataW H),ds.length=fn.params.size→s.fn H ds={ results:=[.lit (.bool true)],args:=ds })
  (witness:∃ (w:World) (tape:Tape) (i:Input),w.os=os∧(w.forCall tape i).Shaped C.prog∧i.vars=[]∧Input.okWide C.prog (w.forCall tape i) .any w.heap.size f i ∧
   ((s.pre enc C.prog fn [] false (w.forCall tape i).memory i.args∧laidMetH C.prog L (w.forCall tape i).memory)∧sizedMet enc C.prog fn (OpenSpec.ofChange s) false (w.forCall tape i).memory i.args)∧({}:Assume).holds C.prog (lone (Frame.enter C.prog f i.args .normal) [] (w.forCall tape i)))
  (law:∀ (W:World) (base:Nat) (args:Array Value) (ds:List (DataW H)) (p:List MemPlace),(∀ (j:Nat) t v,fn.params[j]?=some t→args[j]?=some v→Value.okWide C.prog W .any base t v) →
   DataW.TrodAll enc C.prog W 0 (fun _=>true) true fn.params.toList args.toList ds p→(∀ (j:Nat) (t:TypeId) (d:DataW H),fn.params.toList[j]?=some t→ds[j]?=some d→∀ n∈d.weights C.prog t,n≤reachBytes) →
   laidMetH C.prog L W→Calls C.prog f args W (Ret W (.bool true))) :
  ReturnsInHanded {} C os f .any (fun w args=>(s.pre enc C.prog fn [] false w args∧laidMetH C.prog L w)∧sizedMet enc C.prog fn (OpenSpec.ofChange s) false w args) (s.post enc C.prog fn false true false false):=by
 refine returnsInHanded_of_change_and (X:=fun w _=>laidMetH C.prog L w) (fun w w' _ hh h=>hX w w' hh h) own started tf hfn witness ?_
 intro W base args ds gs before ju hW _ hsz hL _
 have hW':=hW
 obtain⟨p,q,hA,hV,rfl,hfz,hnd⟩:=hW
 rw[hv] at hV
 obtain⟨rfl,rfl⟩:=trodVars_none hV
 have hlen:ds.length=fn.params.size:=by
  have:=HQ hA
  simpa using this
 have hlt:∀ x∈p,x.block<W.heap.size:=fun x hx=>hW'.lt x (cL _ hx)
 refine(law W base args ds p ju hA (fun j t d ht hd n hn=>?_) hL).mono fun e W' ⟨he,hb⟩=>?_
 ·have h1:n∈DataW.weightsEach C.prog (fn.params.toList++s.plain.varTypes C.prog) (ds ++ []) :=
   DataW.weights_mem_each (j:=j) (by rw[cA (by exact(aK.1 ht).1)];exact ht) (by simpa using hd) n hn
  exact of_decide_eq_true (bC.1 hsz n h1)
 ·refine⟨_,he,DO (pa:=p) (pv:=[]) hW' (fun b sp hd=>?_) (fun sp hsp=>?_) (fun sp _=>?_) rfl hb.kit ?_⟩
  ·rw[fg,bS,hs ds hlen];exact trodAll_mk1 (shut_bool htb true)
  ·rw[bS,hs ds hlen];exact Fq hl hb.kit cz hA hlt (fun x hx=>hsp x (cL _ hx))
  ·rw[hv,bS,hs ds hlen];rfl
  ·exact ok_one fg rfl (okWide_bool_mk htb true)
end
end Go.Glue
end
section
namespace Go.Proofs.YtmiemlhgkgfkeaaGreatDoor.topWireRow
open Go.ChangeShapes Go.WideShapes Go.ChangeAt Go.RowKit Go.Glue Go.Eng Go.Sky
theorem own_:ownKnob Tryz.prog.godebug=none:=by kernel_rfl
theorem tabs_of {W:World} (h:laidMetH Tryz.prog Rows.topWireRow.laid W):W4 W:=by
 rw[MakeChecks.laidMetH_plain _ _ _ (by kernel_rfl)] at h
 obtain⟨ps,⟨g0,t0,cs0,f0,p0,q0,hg0,ht0,hv0,hd0,⟨g1,t1,cs1,f1,p1,q1,hg1,ht1,hv1,hd1,⟨g2,t2,cs2,f2,p2,q2,hg2,ht2,hv2,hd2,_,_⟩,_⟩,_⟩,_,_⟩:=h
 exact⟨OQ (zs:=Af) (by kernel_rfl:Tryz.prog.globalNamed "math._cos"=some 1) (by kernel_rfl) Tryz.underlying211 Tryz.underlying130 (by kernel_rfl) (by kernel_rfl) ⟨g1,t1,cs1,f1,p1,hg1,ht1,hv1,hd1⟩ (by decide),OQ (zs:=Ae) (by kernel_rfl:Tryz.prog.globalNamed "math._sin"=some 2) (by kernel_rfl) Tryz.underlying211 Tryz.underlying130 (by kernel_rfl) (by kernel_rfl) ⟨g0,t0,cs0,f0,p0,hg0,ht0,hv0,hd0⟩ (by decide)⟩
theorem door_met (os:Os) (args:Array Value):laidMetH Tryz.prog Rows.topWireRow.laid ((World.doorLaid Tryz.prog 400 os).forCall (fun _ _=>0) ⟨#[],args,[]⟩).memory :=
 laidMetH_of_parts3 (fuel:=8) (laidMet_of_run' 8 (by kernel_rfl) (by kernel_rfl)) (by kernel_rfl) (by kernel_rfl)
theorem lifted (os:Os) (started:os.Started) (H:Type) (enc:TypeId×Value→H) :
  ReturnsInHanded {} Tryz.checked os 3 .any (fun w args=>(Rows.topWireSpec.pre enc Tryz.prog Tryz.f3 [] false w args∧laidMetH Tryz.prog Rows.topWireRow.laid w)∧sizedMet enc Tryz.prog Tryz.f3 (OpenSpec.ofChange Rows.topWireSpec) false w args) (Rows.topWireSpec.post enc Tryz.prog Tryz.f3 false true false false):=by
 refine Zaa (C:=Tryz.checked) (L:=Rows.topWireRow.laid) (tb:=4) (fun _ _ hh h=>h.of_heap hh) own_ started (by kernel_rfl) Tryz.func3 (by kernel_rfl) (by kernel_rfl) rfl (by kernel_rfl) Tryz.underlying4 (fun ds h=>by match ds,h with | [_,_],_=>rfl)
  (ChangeSpec.witness_shaped (enc:=enc) (C:=Tryz.checked) (os:=os) (X:=fun w _=>laidMetH Tryz.prog Rows.topWireRow.laid w) false (World.doorLaid Tryz.prog 400 os) #[.slice none 0 0,.string .empty] 8 rfl (World.shaped_of_RefB (by kernel_rfl) (by kernel_rfl)) (by kernel_rfl) (by kernel_rfl) (by kernel_rfl) (door_met os _)) ?_
 intro W base args ds p hval0 hA0 hw0 hL
 have ju:∀ (j:Nat) t v,Tryz.f3.params[j]?=some t→args[j]?=some v→Value.okWide Tryz.prog W .any base t v:=hval0
 have hA:DataW.TrodAll enc Tryz.prog W 0 (fun _=>true) true Tryz.f3.params.toList args.toList ds p:=hA0
 have hw:∀ (j:Nat) (t:TypeId) (d:DataW H),Tryz.f3.params.toList[j]?=some t→ds[j]?=some d→∀ n∈d.weights Tryz.prog t,n≤reachBytes:=hw0
 clear hval0 hA0 hw0
 rw[Tryz.params3] at hA ju hw
 obtain⟨v0,vs0,d0,ds0,p0,q0,yp,rfl,rfl,h0,s0⟩:=trodAll_cons hA
 obtain⟨v1,vs1,d1,ds1,p1,q1,rfl,rfl,rfl,h1,s1⟩:=trodAll_cons s0
 obtain⟨rfl,rfl,rfl⟩:=trodAll_nil s1
 obtain rfl:args=#[v0,v1]:=by cases args;simp_all
 obtain⟨A0,c0,x0,rfl,r0_,l0_,k0⟩:=Tv (Tu Tryz.underlying3) Tryz.underlying22 (by kernel_rfl:Tryz.prog.cellsOf 3=1) (by decide) rfl (aL (by kernel_rfl)) (ju 0 22 v0 rfl rfl) h0 (hw 0 _ _ rfl rfl)
 obtain⟨x1,rfl,k1⟩:=C2 Tryz.underlying9 (ju 1 9 v1 rfl rfl) h1 (hw 1 _ _ rfl rfl)
 have e:=M6 x0 x1 (by have:=r0_.short;rw[aF] at this;exact this) k0 k1
 have r:=Wj A0 c0 x0 x1 W r0_ l0_ (tabs_of hL)
 rw[e] at r
 exact r
end Go.Proofs.YtmiemlhgkgfkeaaGreatDoor.topWireRow
namespace Go.Proofs.YtmiemlhgkgfkeaaGreatDoor
theorem topWire_holds:Rows.TopWireSaid :=
 OpenClaim.holds_of_wide 3 Tryz.f3 rfl rfl rfl rfl rfl rfl rfl ⟨rfl,rfl,rfl,rfl,rfl⟩ rfl rfl rfl rfl rfl (by kernel_rfl) Tryz.func3 (by kernel_rfl)
  (of_decide_eq_true (by kernel_rfl)) (by unfold Func.isWrapper;rw[if_neg (of_decide_eq_false (by kernel_rfl))];exact⟨rfl,rfl⟩)
  (fun os started H enc _=>topWireRow.lifted os started H enc)
theorem topWire_card:Rows.TopWireCardSaid :=
 Claim7.holds_tied_plain_at .later [] [.data,.data,.data] true (true, "1e25cc7ff48219aa5d83b549353f45b801f6ded7a4f7a00972669e805e04c917") false
  topWire_holds (fun _ h=>by cases h) (by kernel_rfl) (fun _ h=>by cases h) topWire_row_tie rfl ⟨rfl,rfl⟩ (by kernel_rfl) rfl
  (fun f fn hf hfn=>by
   obtain rfl:f=3:=cU ((show Tryz.prog.funcNamed "skyway/skywaytop.TopWire"=some 3 by kernel_rfl).symm.trans hf) |>.symm
   obtain rfl:fn=Tryz.f3:=(cU (Tryz.func3.symm.trans hfn)).symm
   exact⟨by kernel_rfl,fun j t ht=>by
    rw[Tryz.params3] at ht
    rcases j with _|j
    ·have h3:t=22:=by simpa using ht.symm
     subst h3
     exact(show Tryz.prog.wantsStandIn 22=false by kernel_rfl)
    rcases j with _|j
    ·have h3:t=9:=by simpa using ht.symm
     subst h3
     exact(show Tryz.prog.wantsStandIn 9=false by kernel_rfl)
    simp at ht⟩)
  (by kernel_rfl)
end Go.Proofs.YtmiemlhgkgfkeaaGreatDoor
end
