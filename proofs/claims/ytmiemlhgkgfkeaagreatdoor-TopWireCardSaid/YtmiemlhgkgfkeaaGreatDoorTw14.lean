/- Lemmas toward the given statement (part 14 of 20): Hung. Each theorem states its own conditions; nothing is assumed beyond them. -/
import Derived.Test.YtmiemlhgkgfkeaaGreatDoorTw13
set_option maxRecDepth 100000
namespace Go.Sky
open Go Go.Eng
abbrev gt (l:List Int) (k:Nat):Int:=l[k]?.getD 0
abbrev gb (l:List Bool) (k:Nat):Bool:=l[k]?.getD false
theorem Vw {l:List Int} {i:Nat} (v:Int) (k:Nat) (h:i<l.length):gt (l.set i v) k=if k=i then v else gt l k:=by
 unfold gt
 by_cases e:k=i
 ·subst e;rw[if_pos rfl,fE h];rfl
 ·rw[if_neg e,List.getElem?_set_ne (fun h=>e h.symm)]
theorem NG {l:List Bool} {i:Nat} (v:Bool) (k:Nat) (h:i<l.length):gb (l.set i v) k=if k=i then v else gb l k:=by
 unfold gb
 by_cases e:k=i
 ·subst e;rw[if_pos rfl,fE h];rfl
 ·rw[if_neg e,List.getElem?_set_ne (fun h=>e h.symm)]
theorem Ug (n k:Nat):gt (List.replicate n (0:Int)) k=0:=by
 unfold gt
 rw[List.getElem?_replicate]
 split <;> rfl
theorem IH (n k:Nat):gb (List.replicate n false) k=false:=by
 unfold gb
 rw[List.getElem?_replicate]
 split <;> rfl
def cst (qa:List (List Int)) (qb from_:Int) (taken:List Bool) (x:Int) (j:Nat):Int :=
 YT (x-1) ((j:Int)-1) (((qa.drop from_.toNat)[0]?.getD []).length:Int) qb taken (qa.drop from_.toNat)
def Ku (c:Int→Nat→Int) (u v:List Int) (x:Int) (j:Nat):Int:=c x j-gt u x.toNat-gt v j
structure Sc (c:Int→Nat→Int) (u v low way:List Int) (U:List Bool) (m a:Nat) (x:Int) (k:Nat) (δ next:Int) (ya jv:List Int):Prop where
 lenw:ya.length=m+1
 lenl:jv.length=m+1
 same:∀ j,j≤m→(j=0∨k<j∨gb U j=true)→gt jv j=gt low j∧gt ya j=gt way j
 done:∀ j,1≤j→j≤k→gb U j=false→δ≤gt jv j∧((gt jv j=Ku c u v x j∧gt ya j=(a:Int)∧Ku c u v x j<gt low j)∨(gt jv j=gt low j∧gt ya j=gt way j∧gt low j≤Ku c u v x j))
 best:(δ=1152921504606846976∧next=0)∨(∃ nx:Nat,next=(nx:Int)∧1≤nx∧nx≤k∧gb U nx=false∧gt jv nx=δ∧δ<1152921504606846976)
theorem AU {qa:List (List Int)} {qb from_:Int} {taken:List Bool} {kk:Nat} {row u v low way:List Int} {used:List Bool} {m a:Nat} {x:Int}
  (hx:gt (row.set 0 (1+(kk:Int))) a=x) (hxb:1≤x∧x≤1000) (hm:m≤1000)
  (hu:0≤gt u x.toNat∧gt u x.toNat≤70368744177664) (hv:∀ j,j≤m → -70368744177664≤gt v j∧gt v j≤0) (hc:∀ j,1≤j→j≤m→0≤cst qa qb from_ taken x j∧cst qa qb from_ taken x j≤36028797018963968) :
  ∀ (f k:Nat) (δ next:Int) (ya jv:List Int),f+k=m→Sc (cst qa qb from_ taken) u v low way (used.set a true) m a x k δ next ya jv →
   ∃ (δ' next':Int) (vm wu:List Int),Xd qa qb from_ taken kk row (a:Int) u v used f k δ next ya jv=(δ',next',vm,wu)∧Sc (cst qa qb from_ taken) u v low way (used.set a true) m a x m δ' next' vm wu
 | 0,k,δ,next,ya,jv,hf,h=>⟨δ,next,ya,jv,rfl,by rw[show m=k by omega];rw[show m=k by omega] at h;exact h⟩
 | f+1,k,δ,next,ya,jv,hf,h=>by
  have ij:(1+(k:Int)).toNat=k+1:=by omega
  have ih:=AU (qa:=qa) (qb:=qb) (from_:=from_) (taken:=taken) (low:=low) (way:=way) (used:=used) hx hxb hm hu hv hc f (k+1)
  unfold Xd
  simp only[aP,ij]
  cases hU:gb (used.set a true) (k+1)
  ·rw[show (used.set a true)[k+1]?.getD false=false from hU,cond_false]
   have ec:YT (w64 (x-1)) (w64 (1+(k:Int)-1)) (((qa.drop from_.toNat)[0]?.getD []).length:Int) qb taken (qa.drop from_.toNat)=cst qa qb from_ taken x (k+1):=by
    unfold cst
    rw[Zu (x:=x-1) (by omega),Zu (x:=1+(k:Int)-1) (by omega),show 1+(k:Int)-1=((k+1:Nat):Int)-1 by omega]
   have hcj:=hc (k+1) (by omega) (by omega)
   have hvj:=hv (k+1) (by omega)
   have er:w64 (w64 (cst qa qb from_ taken x (k+1)-gt u x.toNat)-gt v (k+1))=Ku (cst qa qb from_ taken) u v x (k+1):=by
    unfold Ku
    rw[Zu (x:=cst qa qb from_ taken x (k+1)-gt u x.toNat) (by omega),Zu (by omega)]
   have dq:((row.set 0 (1+(kk:Int)))[a]?.getD 0)=x:=hx
   simp only[dq,ec]
   rw[show w64 (w64 (cst qa qb from_ taken x (k+1)-u[x.toNat]?.getD 0)-v[k+1]?.getD 0)=Ku (cst qa qb from_ taken) u v x (k+1) from er]
   obtain⟨r,hr⟩:∃ r,r=Ku (cst qa qb from_ taken) u v x (k+1):=⟨_,rfl⟩
   rw[← hr]
   have rb:r≤36169534507319296:=by rw[hr];unfold Ku;omega
   obtain⟨s1,s2⟩:=h.same (k+1) (by omega) (.inr (.inl (by omega)))
   have lw:=h.lenw
   have ll:=h.lenl
   obtain⟨w7,l7,e7,q1,q2,q3,q4,q5⟩:∃ w7 l7:List Int,(cond (decide (r<jv[k+1]?.getD 0)) ((ya.set (k+1) (a:Int)),(jv.set (k+1) r)) (ya,jv))=(w7,l7)∧w7.length=m+1∧l7.length=m+1∧(∀ j,j≠k+1→gt w7 j=gt ya j∧gt l7 j=gt jv j) ∧
     ((gt l7 (k+1)=r∧gt w7 (k+1)=(a:Int)∧r<gt low (k+1))∨(gt l7 (k+1)=gt low (k+1)∧gt w7 (k+1)=gt way (k+1)∧gt low (k+1)≤r))∧gt l7 (k+1)≤r:=by
    by_cases hl:r<gt jv (k+1)
    ·refine⟨_,_,by rw[show decide (r<jv[k+1]?.getD 0)=true from decide_eq_true hl,cond_true],by rw[aQ];exact lw,by rw[aQ];exact ll,fun j hj=>⟨?_,?_⟩,.inl ⟨?_,?_,by rw[← s1];exact hl⟩,?_⟩
     ·rw[Vw _ _ (by omega),if_neg hj]
     ·rw[Vw _ _ (by omega),if_neg hj]
     ·rw[Vw _ _ (by omega),if_pos rfl]
     ·rw[Vw _ _ (by omega),if_pos rfl]
     ·rw[Vw _ _ (by omega),if_pos rfl];exact dL _
    ·refine⟨_,_,by rw[show decide (r<jv[k+1]?.getD 0)=false from decide_eq_false hl,cond_false],lw,ll,fun j _=>⟨rfl,rfl⟩,.inr ⟨s1,s2,by rw[← s1];omega⟩,by omega⟩
   unfold Xq
   rw[e7]
   simp only
   have base:∀ (δ' next':Int),(δ'≤δ∧δ'≤gt l7 (k+1))→((δ'=1152921504606846976∧next'=0)∨(∃ nx:Nat,next'=(nx:Int)∧1≤nx∧nx≤k+1∧gb (used.set a true) nx=false∧gt l7 nx=δ'∧δ'<1152921504606846976)) →
     Sc (cst qa qb from_ taken) u v low way (used.set a true) m a x (k+1) δ' next' w7 l7:=by
    intro δ' next' h1 h2
    refine⟨q1,q2,fun j hj hj2=>?_,fun j hj hj2 hj3=>?_,h2⟩
    ·have hne:j≠k+1:=by
      rintro rfl
      rcases hj2 with h|h|h
      ·omega
      ·omega
      ·rw[hU] at h;cases h
     rw[(q3 j hne).1,(q3 j hne).2]
     refine h.same j hj ?_
     rcases hj2 with h|h|h
     ·exact .inl h
     ·exact .inr (.inl (by omega))
     ·exact .inr (.inr h)
    ·by_cases e:j=k+1
     ·subst e;rw[← hr];exact⟨h1.2,q4⟩
     ·rw[(q3 j e).1,(q3 j e).2]
      obtain⟨d1,d2⟩:=h.done j hj (by omega) hj3
      exact⟨by omega,d2⟩
   by_cases hd:gt l7 (k+1)<δ
   ·rw[show decide (l7[k+1]?.getD 0<δ)=true from decide_eq_true hd,cond_true]
    refine ih _ _ _ _ (by omega) (base _ _ ⟨by show gt l7 (k+1)≤δ;omega,dL _⟩ (.inr ⟨k+1,by omega,by omega,aR _,hU,rfl,?_⟩))
    show gt l7 (k+1)<_
    omega
   ·rw[show decide (l7[k+1]?.getD 0<δ)=false from decide_eq_false hd,cond_false]
    refine ih _ _ _ _ (by omega) (base _ _ ⟨dL _,by omega⟩ ?_)
    rcases h.best with b|⟨nx,b1,b2,b3,b4,b5,b6⟩
    ·exact .inl b
    ·exact .inr ⟨nx,b1,b2,by omega,b4,by rw[(q3 nx (by omega)).2];exact b5,b6⟩
  ·rw[show (used.set a true)[k+1]?.getD false=true from hU,cond_true]
   refine ih _ _ _ _ (by omega) ⟨h.lenw,h.lenl,fun j hj hj2=>?_,fun j hj hj2 hj3=>?_,?_⟩
   ·refine h.same j hj ?_
    rcases hj2 with q|q|q
    ·exact .inl q
    ·exact .inr (.inl (by omega))
    ·exact .inr (.inr q)
   ·have hne:j≠k+1:=by rintro rfl;rw[hU] at hj3;cases hj3
    exact h.done j hj (by omega) hj3
   ·rcases h.best with b|⟨nx,b1,b2,b3,b4,b5,b6⟩
    ·exact .inl b
    ·exact .inr ⟨nx,b1,b2,by omega,b4,b5,b6⟩
structure Up (R u v low:List Int) (U:List Bool) (n m:Nat) (δ:Int) (k:Nat) (u5 v5 jv:List Int):Prop where
 lenu:u5.length=n+1
 lenv:v5.length=m+1
 lenl:jv.length=m+1
 vs:∀ j,j≤m→gt v5 j=if j<k∧gb U j=true then gt v j-δ else gt v j
 ls:∀ j,j≤m→gt jv j=if j<k∧gb U j=false then gt low j-δ else gt low j
 us:∀ j,j<k→j≤m→gb U j=true→gt u5 (gt R j).toNat=gt u (gt R j).toNat+δ
 un:∀ r,r≤n→(∀ j,j<k→j≤m→gb U j=true→(gt R j).toNat≠r)→gt u5 r=gt u r
theorem update {kk:Nat} {row u v low:List Int} {U:List Bool} {n m:Nat} {δ:Int} (hU:U.length=m+1) (hδ:0≤δ∧δ≤1152921504606846976)
  (hu:∀ r,r≤n→0≤gt u r∧gt u r≤70368744177664) (hv:∀ j,j≤m → -70368744177664≤gt v j∧gt v j≤0) (hl:∀ j,j≤m→0≤gt low j∧gt low j≤1152921504606846976)
  (hR:∀ j,j≤m→gb U j=true→0≤gt (row.set 0 (1+(kk:Int))) j∧gt (row.set 0 (1+(kk:Int))) j≤(n:Int))
  (uq:∀ i j,i≤m→j≤m→gb U i=true→gb U j=true→(gt (row.set 0 (1+(kk:Int))) i).toNat=(gt (row.set 0 (1+(kk:Int))) j).toNat→i=j) :
  ∀ (xs:List Bool) (k:Nat) (u5 v5 jv:List Int),U.drop k=xs→Up (row.set 0 (1+(kk:Int))) u v low U n m δ k u5 v5 jv →
   ∃ u6 v6 jx:List Int,X9 kk row δ xs k u5 v5 jv=(u6,v6,jx)∧Up (row.set 0 (1+(kk:Int))) u v low U n m δ (m+1) u6 v6 jx
 | [],k,u5,v5,jv,hx,h=>by
  have hk:m+1≤k:=by
   have:=congrArg List.length hx
   rw[bU] at this
   simp at this;omega
  refine⟨u5,v5,jv,rfl,h.lenu,h.lenv,h.lenl,fun j hj=>?_,fun j hj=>?_,fun j h1 h2 h3=>h.us j (by omega) h2 h3,fun r hr h1=>h.un r hr fun j _ h3 h4=>h1 j (by omega) h3 h4⟩
  ·rw[h.vs j hj]
   by_cases c:gb U j=true
   ·rw[if_pos ⟨by omega,c⟩,if_pos ⟨by omega,c⟩]
   ·rw[if_neg (fun q=>c q.2),if_neg (fun q=>c q.2)]
  ·rw[h.ls j hj]
   by_cases c:gb U j=false
   ·rw[if_pos ⟨by omega,c⟩,if_pos ⟨by omega,c⟩]
   ·rw[if_neg (fun q=>c q.2),if_neg (fun q=>c q.2)]
 | b::xs,k,u5,v5,jv,hx,h=>by
  have hk:k<m+1:=by
   have:=congrArg List.length hx
   rw[bU,aG] at this
   omega
  have hb:gb U k=b:=by
   have:(U.drop k)[0]?=some b:=by rw[hx];rfl
   rw[cV,bI] at this
   unfold gb;rw[this];rfl
  have hx2:U.drop (k+1)=xs:=by rw[← eL,hx];rfl
  have ih:=update (kk:=kk) (row:=row) (low:=low) hU hδ hu hv hl hR uq xs (k+1)
  have lu:=h.lenu
  have lv:=h.lenv
  have ll:=h.lenl
  have vk:=h.vs k (by omega)
  have lk:=h.ls k (by omega)
  rw[if_neg (fun q=>Nat.lt_irrefl _ q.1)] at vk lk
  have bv:=hv k (by omega)
  have bl:=hl k (by omega)
  unfold X9
  cases b
  ·rw[cond_false,show w64 (jv[k]?.getD 0-δ)=gt low k-δ by rw[show jv[k]?.getD 0=gt low k from lk,Zu (by omega)]]
   refine ih _ _ _ hx2 ⟨lu,lv,by rw[aQ];exact ll,fun j hj=>?_,fun j hj=>?_,fun j h1 h2 h3=>?_,fun r hr h1=>h.un r hr fun j h2 h3 h4=>h1 j (by omega) h3 h4⟩
   ·rw[h.vs j hj]
    by_cases c:gb U j=true
    ·have:j≠k:=by rintro rfl;rw[hb] at c;cases c
     by_cases d:j<k
     ·rw[if_pos ⟨d,c⟩,if_pos ⟨by omega,c⟩]
     ·rw[if_neg (fun q=>d q.1),if_neg (fun q=>by omega)]
    ·rw[if_neg (fun q=>c q.2),if_neg (fun q=>c q.2)]
   ·rw[Vw _ _ (by omega)]
    by_cases e:j=k
    ·subst e;rw[if_pos rfl,if_pos ⟨by omega,hb⟩]
    ·rw[if_neg e,h.ls j hj]
     by_cases c:j<k∧gb U j=false
     ·rw[if_pos c,if_pos ⟨by omega,c.2⟩]
     ·rw[if_neg c,if_neg (fun q=>c ⟨by omega,q.2⟩)]
   ·have:j≠k:=by rintro rfl;rw[hb] at h3;cases h3
    exact h.us j (by omega) h2 h3
  ·have hRk:=hR k (by omega) hb
   obtain⟨r,hr⟩:∃ r,r=(gt (row.set 0 (1+(kk:Int))) k).toNat:=⟨_,rfl⟩
   have hrn:r≤n:=by omega
   have huk:gt u5 r=gt u r:=h.un r hrn fun j h1 h2 h3 h4=>by
    have:=uq j k h2 (by omega) h3 hb (by rw[h4,hr])
    omega
   have bu:=hu r hrn
   rw[cond_true]
   rw[show ((row.set 0 (1+(kk:Int)))[k]?.getD 0).toNat=r from hr.symm]
   rw[show w64 (u5[r]?.getD 0+δ)=gt u r+δ by rw[show u5[r]?.getD 0=gt u r from huk,Zu (by omega)],show w64 (v5[k]?.getD 0-δ)=gt v k-δ by rw[show v5[k]?.getD 0=gt v k from vk,Zu (by omega)]]
   refine ih _ _ _ hx2 ⟨by rw[aQ];exact lu,by rw[aQ];exact lv,ll,fun j hj=>?_,fun j hj=>?_,fun j h1 h2 h3=>?_,fun r' hr' h1=>?_⟩
   ·rw[Vw _ _ (by omega)]
    by_cases e:j=k
    ·subst e;rw[if_pos rfl,if_pos ⟨by omega,hb⟩]
    ·rw[if_neg e,h.vs j hj]
     by_cases c:j<k∧gb U j=true
     ·rw[if_pos c,if_pos ⟨by omega,c.2⟩]
     ·rw[if_neg c,if_neg (fun q=>c ⟨by omega,q.2⟩)]
   ·rw[h.ls j hj]
    by_cases c:gb U j=false
    ·have:j≠k:=by rintro rfl;rw[hb] at c;cases c
     by_cases d:j<k
     ·rw[if_pos ⟨d,c⟩,if_pos ⟨by omega,c⟩]
     ·rw[if_neg (fun q=>d q.1),if_neg (fun q=>by omega)]
    ·rw[if_neg (fun q=>c q.2),if_neg (fun q=>c q.2)]
   ·rw[Vw _ _ (by omega)]
    by_cases e:j=k
    ·subst e;rw[← hr,if_pos rfl]
    ·have hne:(gt (row.set 0 (1+(kk:Int))) j).toNat≠r:=fun q=>e (uq j k h2 (by omega) h3 hb (by rw[q,hr]))
     rw[if_neg hne]
     exact h.us j (by omega) h2 h3
   ·have hne:r'≠r:=fun q=>h1 k (by omega) (by omega) hb (by rw[q,hr])
    rw[Vw _ _ (by omega),if_neg hne]
    exact h.un r' hr' fun j h2 h3 h4=>h1 j (by omega) h3 h4
end Go.Sky
namespace Go.Sky
open Go Go.Eng
theorem Hl:∀ (N:Nat) (l:List Nat),l.Nodup→(∀ x∈l,x<N)→l.length≤N
 | 0,l,_,h=>by
  cases l with
  | nil=>exact aR _
  | cons x l=>exact absurd (h x (aM ..)) (cF _)
 | N+1,l,hd,h=>by
  by_cases hm:N∈l
  ·have e:=List.length_erase_of_mem hm
   have ih:=Hl N (l.erase N) (hd.erase N) (fun x hx=>by
    have h1:=(hd.mem_erase_iff).1 hx
    have:=h x h1.2
    have:=h1.1
    omega)
   omega
  ·have:=Hl N l hd (fun x hx=>by
    have:=h x hx
    have:x≠N:=fun e=>hm (e ▸ hx)
    omega)
   omega
structure Bn (n m qv:Nat) (c:Int→Nat→Int) (qb:Int):Prop where
 n1:1≤n∧n≤32
 m1:m=qv+n∧qv≤32
 mb:0≤qb∧qb≤1099511627776
 cb:∀ (x j:Nat),1≤x→x≤n→1≤j→j≤m→0≤c (x:Int) j∧c (x:Int) j≤36028797018963968
 own:∀ (x:Nat),1≤x→x≤n→c (x:Int) (qv+x)=qb
 far:∀ (x y:Nat),1≤x→x≤n→1≤y→y≤n→x≠y→c (x:Int) (qv+y)=36028797018963968
structure KX (n m:Nat) (c:Int→Nat→Int) (k:Nat) (u v row way:List Int):Prop where
 lenu:u.length=n+1
 lenv:v.length=m+1
 lenr:row.length=m+1
 lenw:way.length=m+1
 rowb:∀ j,j≤m→0≤gt row j∧gt row j≤(n:Int)
 rowk:∀ j,1≤j→j≤m→gt row j≤(k:Int)
 inj:∀ i j,1≤i→i≤m→1≤j→j≤m→gt row i=gt row j→gt row i≠0→i=j
 sur:∀ r:Nat,1≤r→r≤k→∃ j,1≤j∧j≤m∧gt row j=(r:Int)
 red:∀ r j:Nat,1≤r→r≤n→1≤j→j≤m→0≤Ku c u v (r:Int) j
 tight:∀ j,1≤j→j≤m→gt row j≠0→Ku c u v (gt row j) j=0
 vneg:∀ j,1≤j→j≤m→gt v j≤0∧(gt row j=0→gt v j=0)
 ub:∀ r,r≤n→0≤gt u r∧gt u r≤(k:Int)*1099511627776
 uz:∀ r,k<r→r≤n→gt u r=0
 vb:∀ j,j≤m → -((k:Int)*1099511627776)≤gt v j∧gt v j≤0
 wayb:∀ j,j≤m→0≤gt way j∧gt way j≤(m:Int)
def Xb (row:List Int) (k:Nat):List Int:=row.set 0 (1+(k:Int))
theorem F9 {row:List Int} {k m:Nat} (h:row.length=m+1):gt (Xb row k) 0=(k:Int)+1:=by
 unfold Xb;rw[Vw _ _ (by omega),if_pos rfl];omega
theorem Lr {row:List Int} {k m:Nat} (h:row.length=m+1) {j:Nat} (hj:1≤j):gt (Xb row k) j=gt row j:=by
 unfold Xb;rw[Vw _ _ (by omega),if_neg (by omega)]
structure Dij (n m:Nat) (c:Int→Nat→Int) (k:Nat) (row:List Int) (S:List Nat) (a:Nat) (u v way low:List Int) (used:List Bool):Prop where
 lenu:u.length=n+1
 lenv:v.length=m+1
 lenw:way.length=m+1
 lenl:low.length=m+1
 lenb:used.length=m+1
 mem:∀ j,j≤m→(gb used j=true↔j∈S)
 nodup:(a::S).Nodup
 le:∀ j∈a::S,j≤m
 z0:0∈a::S
 pos:∀ j∈S,1≤gt (Xb row k) j
 order:∀ (pre:List Nat) (j:Nat) (post:List Nat),a::S=pre++j::post→j≠0→∃ p∈post,gt way j=(p:Int)∧Ku c u v (gt (Xb row k) p) j=0
 red:∀ r j:Nat,1≤r→r≤n→1≤j→j≤m→0≤Ku c u v (r:Int) j
 tight:∀ j,1≤j→j≤m→gt row j≠0→Ku c u v (gt row j) j=0
 vneg:∀ j,1≤j→j≤m→gt v j≤0∧(gt row j=0→gt v j=0)
 ub:∀ r,r≤n→0≤gt u r∧gt u r≤(k:Int)*1099511627776+gt u (k+1)
 uz:∀ r,k+1<r→r≤n→gt u r=0
 vb:∀ j,j≤m → -((k:Int)*1099511627776+gt u (k+1))≤gt v j∧gt v j≤0
 lowb:∀ j,j≤m→0≤gt low j∧gt low j≤1152921504606846976
 lowU:∀ j,1≤j→j≤m→j ∉ S→(∀ s∈S,gt low j≤Ku c u v (gt (Xb row k) s) j)∧(S ≠ []→∃ p∈S,gt way j=(p:Int)∧gt low j=Ku c u v (gt (Xb row k) p) j)∧(S=[]→gt low j=1152921504606846976)
 wayb:∀ j,j≤m→0≤gt way j∧gt way j≤(m:Int)
section
variable {n m qv:Nat} {qa:List (List Int)} {qb from_:Int} {taken:List Bool} {k:Nat} {row:List Int}
theorem Dij.top (hP:Bn n m qv (cst qa qb from_ taken) qb) (hk:k<n) (vq:gt row (qv+(k+1))=0) {S:List Nat} {a:Nat} {u v way low:List Int} {used:List Bool} (h:Dij n m (cst qa qb from_ taken) k row S a u v way low used):gt u (k+1)≤1099511627776:=by
 have hm:=hP.m1
 have r:=h.red (k+1) (qv+(k+1)) (by omega) (by omega) (by omega) (by omega)
 have v0:=(h.vneg (qv+(k+1)) (by omega) (by omega)).2 vq
 unfold Ku at r
 rw[hP.own (k+1) (by omega) (by omega),v0,aP] at r
 have:=hP.mb
 omega
theorem Ls (hP:Bn n m qv (cst qa qb from_ taken) qb) (hk:k<n) (lenr:row.length=m+1) (hrb:∀ j,j≤m→0≤gt row j∧gt row j≤(n:Int)) (hrk:∀ j,1≤j→j≤m→gt row j≤(k:Int))
  (uq:∀ i j,1≤i→i≤m→1≤j→j≤m→gt row i=gt row j→gt row i≠0→i=j) (vq:gt row (qv+(k+1))=0)
  {S:List Nat} {a:Nat} {u v way low:List Int} {used:List Bool} (h:Dij n m (cst qa qb from_ taken) k row S a u v way low used) (ha:1≤gt (Xb row k) a) :
  ∃ (δ:Int) (nx:Nat) (km jx u6 v6 vo:List Int),Xd qa qb from_ taken k row (a:Int) u v used m 0 1152921504606846976 0 way low=(δ,(nx:Int),km,jx)∧X9 k row δ (used.set a true) 0 u v jx=(u6,v6,vo) ∧
   1≤nx∧nx≤m∧Dij n m (cst qa qb from_ taken) k row (a::S) nx u6 v6 km vo (used.set a true):=by
 have hn:=hP.n1
 have hm:=hP.m1
 have top:=h.top hP hk vq
 have lenb:=h.lenb
 have ham:a≤m:=h.le a (aM ..)
 obtain⟨x,hx⟩:∃ x,gt (Xb row k) a=x:=⟨_,rfl⟩
 have R0:=F9 (k:=k) lenr
 have RS:=fun j (hj:1≤j)=>Lr (k:=k) lenr hj
 have Rb:∀ j,j≤m→0≤gt (Xb row k) j∧gt (Xb row k) j≤(k:Int)+1:=fun j hj=>by
  by_cases e:j=0
  ·subst e;omega
  ·rw[RS j (by omega)]
   have:=hrb j hj
   have:=hrk j (by omega) hj
   omega
 have hxb:1≤x∧x≤(k:Int)+1:=⟨hx ▸ ha,hx ▸ (Rb a ham).2⟩
 have kK:(k:Int)*1099511627776≤31*1099511627776:=by omega
 have hu:∀ r,r≤n→0≤gt u r∧gt u r≤70368744177664:=fun r hr=>by have:=h.ub r hr;omega
 have hv:∀ j,j≤m → -70368744177664≤gt v j∧gt v j≤0:=fun j hj=>by have:=h.vb j hj;omega
 have ex:((x.toNat:Nat):Int)=x:=by omega
 have hcx:∀ j,1≤j→j≤m→0≤cst qa qb from_ taken x j∧cst qa qb from_ taken x j≤36028797018963968:=fun j h1 h2=>by
  have:=hP.cb x.toNat j (by omega) (by omega) h1 h2
  rwa [ex] at this
 have Um:∀ j,j≤m→(gb (used.set a true) j=true↔j∈a::S):=fun j hj=>by
  rw[NG _ _ (by omega)]
  by_cases e:j=a
  ·subst e;simp
  ·rw[if_neg e,h.mem j hj];simp[e]
 have Uf:∀ j,j≤m→(gb (used.set a true) j=false↔j ∉ a::S):=fun j hj=>by
  rw[← Um j hj];cases gb (used.set a true) j <;> simp
 obtain⟨δ,next,km,jx,e4,sc⟩:=AU (qa:=qa) (qb:=qb) (from_:=from_) (taken:=taken) (kk:=k) (row:=row) (u:=u) (v:=v) (low:=low) (way:=way) (used:=used) (m:=m) (a:=a) (x:=x) hx (by omega) (by omega) (hu x.toNat (by omega)) hv hcx m 0 1152921504606846976 0 way low (by omega)
  ⟨h.lenw,h.lenl,fun j _ _=>⟨rfl,rfl⟩,fun j h1 h2 _=>by omega,.inl ⟨rfl,rfl⟩⟩
 have hfr:(qv+(k+1)) ∉ a::S:=by
  intro sw
  have:1≤gt (Xb row k) (qv+(k+1)):=by
   rcases bA.1 sw with e|e
   ·rw[e];exact ha
   ·exact h.pos _ e
  rw[RS _ (by omega),vq] at this
  omega
 have small:∀ j,1≤j→j≤m→Ku (cst qa qb from_ taken) u v x j≤36099165763141632:=fun j h1 h2=>by
  have:=hcx j h1 h2
  have:=hv j h2
  have:=hu x.toNat (by omega)
  unfold Ku;omega
 have hδ:δ<1152921504606846976:=by
  obtain⟨d1,d2⟩:=sc.done (qv+(k+1)) (by omega) (by omega) ((Uf _ (by omega)).2 hfr)
  have:=small (qv+(k+1)) (by omega) (by omega)
  rcases d2 with ⟨q1,_,_⟩|⟨q1,_,q3⟩ <;> omega
 obtain⟨nx,n1,n2,n3,n4,n5,_⟩:∃ nx:Nat,next=(nx:Int)∧1≤nx∧nx≤m∧gb (used.set a true) nx=false∧gt jx nx=δ∧δ<1152921504606846976:=by
  rcases sc.best with ⟨b1,_⟩|b
  ·omega
  ·exact b
 have ej:∀ j,1≤j→j≤m→0≤Ku (cst qa qb from_ taken) u v x j:=fun j h1 h2=>by
  have:=h.red x.toNat j (by omega) (by omega) h1 h2
  rwa [ex] at this
 have fu:∀ j,j≤m→0≤gt jx j∧gt jx j≤1152921504606846976:=fun j hj=>by
  have lb:=h.lowb j hj
  by_cases c:j=0∨gb (used.set a true) j=true
  ·rw[(sc.same j hj (by rcases c with c|c;exact .inl c;exact .inr (.inr c))).1];exact lb
  ·have c2:gb (used.set a true) j=false:=by cases q:gb (used.set a true) j;rfl;exact absurd (.inr q) c
   obtain⟨_,d2⟩:=sc.done j (by omega) hj c2
   have:=ej j (by omega) hj
   rcases d2 with ⟨q1,_,q3⟩|⟨q1,_,_⟩ <;> omega
 have δ0:0≤δ:=by have:=fu nx n3;omega
 have Rinj:∀ i j,i≤m→j≤m→i∈a::S→j∈a::S→(gt (Xb row k) i).toNat=(gt (Xb row k) j).toNat→i=j:=by
  intro i j hi hj mi mj e
  have pi:1≤gt (Xb row k) i:=by
   rcases bA.1 mi with q|q
   ·rw[q];exact ha
   ·exact h.pos _ q
  have bi:=Rb i hi
  have bj:=Rb j hj
  have e2:gt (Xb row k) i=gt (Xb row k) j:=by omega
  by_cases i0:i=0 <;> by_cases j0:j=0
  ·rw[i0,j0]
  ·subst i0
   rw[R0,RS j (by omega)] at e2
   have:=hrk j (by omega) hj
   omega
  ·subst j0
   rw[R0,RS i (by omega)] at e2
   have:=hrk i (by omega) hi
   omega
  ·rw[RS i (by omega)] at e2 pi
   rw[RS j (by omega)] at e2
   exact uq i j (by omega) hi (by omega) hj e2 (by omega)
 obtain⟨u6,v6,vo,e5,up⟩:=update (kk:=k) (row:=row) (u:=u) (v:=v) (low:=jx) (U:=used.set a true) (n:=n) (m:=m) (δ:=δ) (by rw[aQ];exact lenb) ⟨δ0,by omega⟩ hu hv fu
  (fun j hj _=>by have:=Rb j hj;exact⟨this.1,by show gt (Xb row k) j≤_;omega⟩)
  (fun i j hi hj mi mj e=>Rinj i j hi hj ((Um i hi).1 mi) ((Um j hj).1 mj) e) (used.set a true) 0 u v jx eM
  ⟨h.lenu,h.lenv,sc.lenl,fun j _=>by rw[if_neg (fun q=>cF _ q.1)],fun j _=>by rw[if_neg (fun q=>cF _ q.1)],fun j q=>by omega,fun r _ _=>rfl⟩
 have vU:∀ j,j≤m→j∈a::S→gt v6 j=gt v j-δ:=fun j hj mj=>by rw[up.vs j hj,if_pos ⟨by omega,(Um j hj).2 mj⟩]
 have vN:∀ j,j≤m→j ∉ a::S→gt v6 j=gt v j:=fun j hj mj=>by rw[up.vs j hj,if_neg (fun q=>mj ((Um j hj).1 q.2))]
 have lN:∀ j,j≤m→j ∉ a::S→gt vo j=gt jx j-δ:=fun j hj mj=>by rw[up.ls j hj,if_pos ⟨by omega,(Uf j hj).2 mj⟩]
 have lU:∀ j,j≤m→j∈a::S→gt vo j=gt jx j:=fun j hj mj=>by rw[up.ls j hj,if_neg (fun q=>(Uf j hj).1 q.2 mj)]
 have uU:∀ s,s≤m→s∈a::S→gt u6 (gt (Xb row k) s).toNat=gt u (gt (Xb row k) s).toNat+δ:=fun s hs ms=>up.us s (by omega) hs ((Um s hs).2 ms)
 have uN:∀ r,r≤n→(∀ s,s≤m→s∈a::S→(gt (Xb row k) s).toNat≠r)→gt u6 r=gt u r:=fun r hr q=>up.un r hr fun j _ hj mj=>q j hj ((Um j hj).1 mj)
 have nj:∀ r,r≤n→(∃ s,s≤m∧s∈a::S∧(gt (Xb row k) s).toNat=r∧gt u6 r=gt u r+δ)∨((∀ s,s≤m→s∈a::S→(gt (Xb row k) s).toNat≠r)∧gt u6 r=gt u r):=fun r hr=>by
  by_cases q:∃ s,s≤m∧s∈a::S∧(gt (Xb row k) s).toNat=r
  ·obtain⟨s,s1,s2,s3⟩:=q
   exact .inl ⟨s,s1,s2,s3,by rw[← s3];exact uU s s1 s2⟩
  ·exact .inr ⟨fun s s1 s2 s3=>q ⟨s,s1,s2,s3⟩,uN r hr fun s s1 s2 s3=>q ⟨s,s1,s2,s3⟩⟩
 have lem:∀ j∈a::S,j≤m:=h.le
 have rU:∀ s,s∈a::S→∀ j,j≤m→j ∉ a::S→Ku (cst qa qb from_ taken) u6 v6 (gt (Xb row k) s) j=Ku (cst qa qb from_ taken) u v (gt (Xb row k) s) j-δ:=fun s ms j hj mj=>by
  unfold Ku;rw[uU s (lem s ms) ms,vN j hj mj];omega
 have rUU:∀ s,s∈a::S→∀ j,j≤m→j∈a::S→Ku (cst qa qb from_ taken) u6 v6 (gt (Xb row k) s) j=Ku (cst qa qb from_ taken) u v (gt (Xb row k) s) j:=fun s ms j hj mj=>by
  unfold Ku;rw[uU s (lem s ms) ms,vU j hj mj];omega
 have gg:∀ j,1≤j→j≤m→j ∉ a::S→δ≤gt jx j∧∀ s∈a::S,gt jx j≤Ku (cst qa qb from_ taken) u v (gt (Xb row k) s) j:=fun j h1 h2 mj=>by
  obtain⟨d1,d2⟩:=sc.done j h1 h2 ((Uf j h2).2 mj)
  refine⟨d1,fun s ms=>?_⟩
  obtain⟨lu1,_,_⟩:=h.lowU j h1 h2 (fun q=>mj (aJ _ q))
  rcases bA.1 ms with e|e
  ·rw[e,hx]
   rcases d2 with ⟨q1,_,_⟩|⟨q1,_,q3⟩ <;> omega
  ·have:=lu1 s e
   rcases d2 with ⟨q1,_,q3⟩|⟨q1,_,_⟩ <;> omega
 have sf:∀ j,1≤j→j≤m→j ∉ a::S→∃ p∈a::S,gt km j=(p:Int)∧gt jx j=Ku (cst qa qb from_ taken) u v (gt (Xb row k) p) j:=fun j h1 h2 mj=>by
  obtain⟨d1,d2⟩:=sc.done j h1 h2 ((Uf j h2).2 mj)
  obtain⟨_,lu2,lu3⟩:=h.lowU j h1 h2 (fun q=>mj (aJ _ q))
  rcases d2 with ⟨q1,q2,_⟩|⟨q1,q2,q3⟩
  ·exact⟨a,aM ..,q2,by rw[q1,hx]⟩
  ·by_cases hS:S=[]
   ·have:=lu3 hS
    have:=small j h1 h2
    omega
   ·obtain⟨p,p1,p2,p3⟩:=lu2 hS
    exact⟨p,aJ _ p1,by rw[q2,p2],by rw[q1,p3]⟩
 have nxm:nx ∉ a::S:=(Uf nx n3).1 n4
 have rf:∀ j∈a::S,1≤gt (Xb row k) j:=fun j hj=>by
  rcases bA.1 hj with e|e
  ·rw[e];exact ha
  ·exact h.pos j e
 have uk:gt u6 (k+1)=gt u (k+1)+δ:=by
  have:=uU 0 (aN _) h.z0
  rwa [R0,show ((k:Int)+1).toNat=k+1 by omega] at this
 refine⟨δ,nx,km,jx,u6,v6,vo,by rw[e4,n1],e5,n2,n3,?_⟩
 refine⟨up.lenu,up.lenv,sc.lenw,up.lenl,by rw[aQ];exact lenb,Um,?_,?_,aJ _ h.z0,rf,?_,?_,?_,?_,?_,?_,?_,?_,?_,?_⟩
 ·exact List.nodup_cons.2 ⟨nxm,h.nodup⟩
 ·intro j hj
  rcases bA.1 hj with e|e
  ·rw[e];exact n3
  ·exact lem j e
 ·
  intro pre j post hp hj0
  rcases pre with _|⟨b,pre⟩
  ·rw[cO] at hp
   injection hp with hp1 hp2
   subst hp1
   obtain⟨p,p1,p2,p3⟩:=sf nx n2 n3 nxm
   refine⟨p,by rw[← hp2];exact p1,p2,?_⟩
   rw[rU p p1 nx n3 nxm,← p3,n5];omega
  ·rw[eE] at hp
   injection hp with hp1 hp2
   obtain⟨p,p1,p2,p3⟩:=h.order pre j post hp2 hj0
   have mj:j∈a::S:=by rw[hp2];simp
   have mp:p∈a::S:=by rw[hp2];simp[p1]
   have jm:=lem j mj
   refine⟨p,p1,?_,?_⟩
   ·rw[(sc.same j jm (.inr (.inr ((Um j jm).2 mj)))).2];exact p2
   ·rw[rUU p mp j jm mj];exact p3
 ·
  intro r j r1 r2 j1 j2
  have base:=h.red r j r1 r2 j1 j2
  rcases nj r r2 with ⟨s,s1,s2,s3,s4⟩|⟨_,s4⟩
  ·by_cases mj:j∈a::S
   ·unfold Ku at base ⊢
    rw[aP] at base ⊢
    rw[s4,vU j j2 mj];omega
   ·have:=(gg j j1 j2 mj).1
    have l2:=(gg j j1 j2 mj).2 s s2
    have e:gt (Xb row k) s=(r:Int):=by have:=Rb s s1;omega
    rw[e] at l2
    unfold Ku at base l2 ⊢
    rw[aP] at base l2 ⊢
    rw[s4,vN j j2 mj];omega
  ·unfold Ku at base ⊢
   rw[aP] at base ⊢
   by_cases mj:j∈a::S
   ·rw[s4,vU j j2 mj];omega
   ·rw[s4,vN j j2 mj];omega
 ·
  intro j j1 j2 hj
  have base:=h.tight j j1 j2 hj
  by_cases mj:j∈a::S
  ·have:=rUU j mj j j2 mj
   rw[RS j j1] at this
   rw[this];exact base
  ·have hb:=hrb j j2
   have e:gt u6 (gt row j).toNat=gt u (gt row j).toNat:=by
    refine uN _ (by omega) fun s s1 s2 s3=>?_
    have ps:=rf s s2
    by_cases s0:s=0
    ·subst s0
     rw[R0] at s3
     have:=hrk j j1 j2
     omega
    ·rw[RS s (by omega)] at s3 ps
     have:=uq s j (by omega) s1 j1 j2 (by omega) (by omega)
     rw[this] at s2
     exact mj s2
   unfold Ku at base ⊢
   rw[e,vN j j2 mj];exact base
 ·intro j j1 j2
  obtain⟨b1,b2⟩:=h.vneg j j1 j2
  by_cases mj:j∈a::S
  ·rw[vU j j2 mj]
   refine⟨by omega,fun q=>?_⟩
   have:=rf j mj
   rw[RS j j1,q] at this
   omega
  ·rw[vN j j2 mj];exact⟨b1,b2⟩
 ·intro r hr
  have b:=h.ub r hr
  rw[uk]
  rcases nj r hr with ⟨s,_,_,_,s4⟩|⟨_,s4⟩ <;> rw[s4] <;> omega
 ·intro r r1 r2
  rw[← h.uz r r1 r2]
  refine uN r r2 fun s s1 s2 s3=>?_
  have:=Rb s s1
  omega
 ·intro j hj
  have b:=h.vb j hj
  rw[uk]
  by_cases mj:j∈a::S
  ·rw[vU j hj mj];omega
  ·rw[vN j hj mj];omega
 ·intro j hj
  have b:=fu j hj
  by_cases mj:j∈a::S
  ·rw[lU j hj mj];exact b
  ·have j0:1≤j:=by
    rcases bM j with e|e
    ·rw[e] at mj;exact absurd h.z0 mj
    ·exact e
   have:=(gg j j0 hj mj).1
   rw[lN j hj mj];omega
 ·intro j j1 j2 mj
  refine⟨fun s ms=>?_,fun _=>?_,fun q=>by cases q⟩
  ·have:=(gg j j1 j2 mj).2 s ms
   rw[lN j j2 mj,rU s ms j j2 mj];omega
  ·obtain⟨p,p1,p2,p3⟩:=sf j j1 j2 mj
   exact⟨p,p1,p2,by rw[lN j j2 mj,rU p p1 j j2 mj,p3]⟩
 ·intro j hj
  have b:=h.wayb j hj
  by_cases c:j=0∨gb (used.set a true) j=true
  ·rw[(sc.same j hj (by rcases c with c|c;exact .inl c;exact .inr (.inr c))).2];exact b
  ·have c2:gb (used.set a true) j=false:=by cases q:gb (used.set a true) j;rfl;exact absurd (.inr q) c
   obtain⟨_,d2⟩:=sc.done j (by omega) hj c2
   rcases d2 with ⟨_,q2,_⟩|⟨_,q2,_⟩
   ·rw[q2];omega
   ·rw[q2];exact b
theorem Lt (hP:Bn n m qv (cst qa qb from_ taken) qb) (hk:k<n) (lenr:row.length=m+1) (hrb:∀ j,j≤m→0≤gt row j∧gt row j≤(n:Int)) (hrk:∀ j,1≤j→j≤m→gt row j≤(k:Int))
  (uq:∀ i j,1≤i→i≤m→1≤j→j≤m→gt row i=gt row j→gt row i≠0→i=j) (vq:gt row (qv+(k+1))=0) :
  ∀ (f:Nat) (S:List Nat) (a:Nat) (u v way low:List Int) (used:List Bool),Dij n m (cst qa qb from_ taken) k row S a u v way low used→1≤gt (Xb row k) a→m+1≤f+S.length →
   ∃ (S':List Nat) (e:Nat) (u' v' vm wu:List Int) (wj:List Bool),Q9 qa qb from_ taken (m:Int) k row f (a:Int) u v way low used=some ((e:Int),u',v',vm,wu,wj)∧Dij n m (cst qa qb from_ taken) k row S' e u' v' vm wu wj∧gt (Xb row k) e=0∧1≤e
 | 0,S,a,u,v,way,low,used,h,_,hf=>by
  have:=Hl (m+1) (a::S) h.nodup (fun x hx=>by have:=h.le x hx;omega)
  rw[aG] at this
  omega
 | f+1,S,a,u,v,way,low,used,h,ha,hf=>by
  obtain⟨δ,nx,km,jx,u6,v6,vo,e4,e5,n1,n2,h'⟩:=Ls hP hk lenr hrb hrk uq vq h ha
  unfold Q9
  rw[aP,e4]
  unfold Xq
  simp only[aP,e5]
  have er:((row.set 0 (1+(k:Int)))[nx]?.getD 0)=gt (Xb row k) nx:=rfl
  rw[er]
  by_cases h0:gt (Xb row k) nx=0
  ·rw[show (gt (Xb row k) nx==0)=true by simpa using h0,cond_true]
   exact⟨a::S,nx,u6,v6,km,vo,_,rfl,h',h0,n1⟩
  ·rw[show (gt (Xb row k) nx==0)=false by simpa using h0,cond_false]
   have hb:0≤gt (Xb row k) nx:=by rw[Lr lenr n1];exact(hrb nx n2).1
   exact Lt hP hk lenr hrb hrk uq vq f (a::S) nx u6 v6 km vo _ h' (by omega) (by rw[aG];omega)
end
end Go.Sky
namespace Go.Sky
open Go Go.Eng
structure Aug (m:Nat) (c:Int→Nat→Int) (k:Nat) (row u v:List Int) (a:Nat) (pre:List Nat) (ρ:List Int):Prop where
 len:ρ.length=m+1
 same:∀ i,i≤m→i ∉ pre→gt ρ i=gt (Xb row k) i
 bnd:∀ i,i≤m→0≤gt ρ i∧gt ρ i≤(k:Int)+1
 tight:∀ i,1≤i→i≤m→i≠a→gt ρ i≠0→Ku c u v (gt ρ i) i=0
 inj:∀ i j,i≤m→j≤m→i≠a→j≠a→gt ρ i=gt ρ j→gt ρ i≠0→i=j
 sur:∀ r:Nat,1≤r→r≤k+1→∃ i,i≤m∧i≠a∧gt ρ i=(r:Int)
 zero:∀ i,i≤m→i≠a→gt ρ i=0→gt (Xb row k) i=0
theorem CS {n m k:Nat} {c:Int→Nat→Int} {row:List Int} {S:List Nat} {e:Nat} {u v way low:List Int} {used:List Bool} (h:Dij n m c k row S e u v way low used) :
  ∀ (f:Nat) (a:Nat) (pre post:List Nat) (ρ:List Int),e::S=pre++a::post→Aug m c k row u v a pre ρ→post.length<f →
   ∃ (eo:List Nat) (ρ':List Int),XR way f (a:Int) ρ=some ρ'∧Aug m c k row u v 0 eo ρ'
 | 0,a,pre,post,ρ,_,_,hf=>by omega
 | f+1,a,pre,post,ρ,hp,g,hf=>by
  have nd:=h.nodup
  rw[hp] at nd
  have am:a≤m:=h.le a (by rw[hp];simp)
  have ep:=g.len
  unfold XR
  by_cases a0:a=0
  ·subst a0
   exact⟨pre,ρ,rfl,g⟩
  ·rw[show ((a:Int) != 0)=true by simp;omega,cond_true]
   obtain⟨p,p1,p2,p3⟩:=h.order pre a post hp a0
   obtain⟨nk,nm,hq⟩:=List.append_of_mem p1
   have pS:p∈S:=by
    rcases pre with _|⟨b,pre⟩
    ·rw[cO] at hp;injection hp with _ hp2;rw[hp2];exact p1
    ·rw[eE] at hp;injection hp with _ hp2;rw[hp2];simp[p1]
   have pm:p≤m:=h.le p (aJ _ pS)
   have oo:=h.pos p pS
   obtain⟨_,nd2,nd3⟩:=List.nodup_append.1 nd
   have pa:p≠a:=by
    rintro rfl
    exact(List.nodup_cons.1 nd2).1 p1
   have np:p ∉ pre:=fun q=>nd3 p q p (aJ _ p1) rfl
   have ew:(way[((a:Int)).toNat]?.getD 0)=(p:Int):=by rw[aP];exact p2
   have er:(ρ[((p:Int)).toNat]?.getD 0)=gt (Xb row k) p:=by rw[aP];exact g.same p pm np
   rw[ew,er,aP]
   have st:∀ i,gt (ρ.set a (gt (Xb row k) p)) i=if i=a then gt (Xb row k) p else gt ρ i:=fun i=>Vw _ _ (by omega)
   have sa:gt (ρ.set a (gt (Xb row k) p)) a=gt (Xb row k) p:=by rw[st,if_pos rfl]
   have sn:∀ i,i≠a→gt (ρ.set a (gt (Xb row k) p)) i=gt ρ i:=fun i hi=>by rw[st,if_neg hi]
   have gp:gt ρ p=gt (Xb row k) p:=g.same p pm np
   refine CS h f p (pre++a::nk) nm _ (by rw[hp,hq];simp) ⟨by rw[aQ];exact ep,fun i hi hn=>?_,fun i hi=>?_,fun i h1 h2 h3 h4=>?_,fun i j hi hj h1 h2 h3 h4=>?_,fun r h1 h2=>?_,fun i hi h1 h2=>?_⟩ ?_
   ·have:i≠a:=by rintro rfl;exact hn (by simp)
    rw[sn i this]
    exact g.same i hi fun q=>hn (by simp[q])
   ·by_cases c:i=a
    ·rw[c,sa,← gp];exact g.bnd p pm
    ·rw[sn i c];exact g.bnd i hi
   ·by_cases c:i=a
    ·rw[c,sa];exact p3
    ·rw[sn i c] at h4 ⊢;exact g.tight i h1 h2 c h4
   ·by_cases ci:i=a <;> by_cases cj:j=a
    ·rw[ci,cj]
    ·rw[ci,sa,sn j cj,← gp] at h3
     exact absurd (g.inj j p hj pm cj pa h3.symm (by rw[← h3,gp];omega)) h2
    ·rw[cj,sa,sn i ci,← gp] at h3
     exact absurd (g.inj i p hi pm ci pa h3 (by rw[h3,gp];omega)) h1
    ·rw[sn i ci,sn j cj] at h3
     rw[sn i ci] at h4
     exact g.inj i j hi hj ci cj h3 h4
   ·obtain⟨i,i1,i2,i3⟩:=g.sur r h1 h2
    by_cases c:i=p
    ·exact⟨a,am,fun q=>pa q.symm,by rw[sa,← gp,← c];exact i3⟩
    ·exact⟨i,i1,c,by rw[sn i i2];exact i3⟩
   ·by_cases c:i=a
    ·rw[c,sa] at h2;omega
    ·rw[sn i c] at h2;exact g.zero i hi c h2
   ·rw[hq,aI,aG] at hf
    omega
theorem fill:∀ (f k:Nat) (low:List Int),(Xu f k low).length=low.length∧(k+f≤low.length→∀ j,gt (Xu f k low) j=if k≤j∧j<k+f then 1152921504606846976 else gt low j)
 | 0,k,low=>⟨rfl,fun _ j=>by rw[if_neg (by omega)];rfl⟩
 | f+1,k,low=>by
  obtain⟨l1,l2⟩:=fill f (k+1) (low.set k 1152921504606846976)
  rw[aQ] at l1 l2
  unfold Xu
  refine⟨l1,fun hl j=>?_⟩
  rw[l2 (by omega) j,Vw _ _ (by omega)]
  by_cases c:k≤j∧j<k+(f+1)
  ·rw[if_pos c]
   by_cases d:k+1≤j∧j<k+1+f
   ·rw[if_pos d]
   ·rw[if_neg d,if_pos (by omega)]
  ·rw[if_neg c,if_neg (by omega),if_neg (by omega)]
section
variable {n m qv:Nat} {qa:List (List Int)} {qb from_:Int} {taken:List Bool} {k:Nat} {u v row way:List Int}
theorem KX.free (hP:Bn n m qv (cst qa qb from_ taken) qb) (hk:k<n) (h:KX n m (cst qa qb from_ taken) k u v row way):gt row (qv+(k+1))=0:=by
 have hn:=hP.n1
 have hm:=hP.m1
 by_cases c:gt row (qv+(k+1))=0
 ·exact c
 ·exfalso
  have b:=h.rowb (qv+(k+1)) (by omega)
  have bk:=h.rowk (qv+(k+1)) (by omega) (by omega)
  obtain⟨r,hr⟩:∃ r:Nat,gt row (qv+(k+1))=(r:Int):=⟨(gt row (qv+(k+1))).toNat,by omega⟩
  rw[hr] at b bk c
  have t:=h.tight (qv+(k+1)) (by omega) (by omega) (by rw[hr];exact c)
  have f:=hP.far r (k+1) (by omega) (by omega) (by omega) (by omega) (by omega)
  have ub:=h.ub r (by omega)
  have vb:=(h.vneg (qv+(k+1)) (by omega) (by omega)).1
  rw[hr] at t
  unfold Ku at t
  rw[f,aP] at t
  omega
theorem KX.start (hP:Bn n m qv (cst qa qb from_ taken) qb) (hk:k<n) (h:KX n m (cst qa qb from_ taken) k u v row way) :
  Dij n m (cst qa qb from_ taken) k row [] 0 u v way (Xu (m+1) 0 (List.replicate (m+1) 0)) (List.replicate (m+1) false):=by
 have hn:=hP.n1
 have hm:=hP.m1
 obtain⟨l1,l2⟩:=fill (m+1) 0 (List.replicate (m+1) 0)
 rw[bL] at l1 l2
 have l3:=l2 (by omega)
 have u0:=h.uz (k+1) (by omega) (by omega)
 have lo:∀ j,j≤m→gt (Xu (m+1) 0 (List.replicate (m+1) 0)) j=1152921504606846976:=fun j hj=>by rw[l3 j,if_pos (by omega)]
 refine⟨h.lenu,h.lenv,h.lenw,l1,bL ..,fun j _=>by rw[IH];simp,by simp,fun j hj=>by simp at hj;omega,by simp,fun j hj=>by simp at hj,fun pre j post hp hj=>?_,h.red,h.tight,h.vneg,fun r hr=>by rw[u0];have:=h.ub r hr;omega,fun r h1 h2=>h.uz r (by omega) h2,fun j hj=>by rw[u0];have:=h.vb j hj;omega,fun j hj=>by rw[lo j hj];omega,fun j h1 h2 _=>⟨fun s hs=>by simp at hs,fun q=>absurd rfl q,fun _=>lo j h2⟩,h.wayb⟩
 have:j ∈ [0]:=by rw[hp];simp
 simp at this;exact absurd this hj
theorem Dij.done (hP:Bn n m qv (cst qa qb from_ taken) qb) (hk:k<n) (h:KX n m (cst qa qb from_ taken) k u v row way)
  {S:List Nat} {e:Nat} {u' v' vm wu:List Int} {wj:List Bool} (d:Dij n m (cst qa qb from_ taken) k row S e u' v' vm wu wj) (he:gt (Xb row k) e=0) (he1:1≤e) :
  ∃ ρ,XR vm 100 (e:Int) (row.set 0 (1+(k:Int)))=some ρ∧KX n m (cst qa qb from_ taken) (k+1) u' v' ρ vm:=by
 have hn:=hP.n1
 have hm:=hP.m1
 have fr:=h.free hP hk
 have top:=d.top hP hk fr
 have lenr:=h.lenr
 have R0:=F9 (k:=k) lenr
 have RS:=fun j (hj:1≤j)=>Lr (k:=k) lenr hj
 have Rb:∀ j,j≤m→0≤gt (Xb row k) j∧gt (Xb row k) j≤(k:Int)+1:=fun j hj=>by
  by_cases e:j=0
  ·subst e;omega
  ·rw[RS j (by omega)]
   have:=h.rowb j hj
   have:=h.rowk j (by omega) hj
   omega
 have sl:=Hl (m+1) (e::S) d.nodup (fun x hx=>by have:=d.le x hx;omega)
 rw[aG] at sl
 have g0:Aug m (cst qa qb from_ taken) k row u' v' e [] (Xb row k):=by
  refine⟨by unfold Xb;rw[aQ];exact lenr,fun i _ _=>rfl,Rb,fun i h1 h2 _ h4=>?_,fun i j hi hj _ _ h3 h4=>?_,fun r h1 h2=>?_,fun i _ _ q=>q⟩
  ·rw[RS i h1] at h4 ⊢
   exact d.tight i h1 h2 h4
  ·by_cases i0:i=0 <;> by_cases j0:j=0
   ·rw[i0,j0]
   ·subst i0
    rw[R0,RS j (by omega)] at h3
    have:=h.rowk j (by omega) hj
    omega
   ·subst j0
    rw[R0,RS i (by omega)] at h3
    have:=h.rowk i (by omega) hi
    omega
   ·rw[RS i (by omega)] at h3 h4
    rw[RS j (by omega)] at h3
    exact h.inj i j (by omega) hi (by omega) hj h3 h4
  ·by_cases c:r=k+1
   ·exact⟨0,aN _,by omega,by rw[R0];omega⟩
   ·obtain⟨j,j1,j2,j3⟩:=h.sur r h1 (by omega)
    refine⟨j,j2,fun q=>?_,by rw[RS j j1];exact j3⟩
    rw[← q,RS j j1] at he
    omega
 obtain⟨pre,ρ,e1,g⟩:=CS d 100 e [] S (Xb row k) rfl g0 (by omega)
 refine⟨ρ,e1,d.lenu,d.lenv,g.len,d.lenw,fun j hj=>by have:=g.bnd j hj;omega,fun j _ hj=>by have:=g.bnd j hj;omega,fun i j h1 h2 h3 h4 h5 h6=>g.inj i j h2 h4 (by omega) (by omega) h5 h6,fun r h1 h2=>?_,d.red,fun j h1 h2 h3=>g.tight j h1 h2 (by omega) h3,fun j h1 h2=>⟨(d.vneg j h1 h2).1,fun q=>(d.vneg j h1 h2).2 ?_⟩,fun r hr=>by have:=d.ub r hr;omega,fun r h1 h2=>d.uz r h1 h2,fun j hj=>by have:=d.vb j hj;omega,d.wayb⟩
 ·obtain⟨i,i1,i2,i3⟩:=g.sur r h1 h2
  exact⟨i,by omega,i1,i3⟩
 ·rw[← RS j h1];exact g.zero j h2 (by omega) q
theorem phase (hP:Bn n m qv (cst qa qb from_ taken) qb) (hk:k<n) (h:KX n m (cst qa qb from_ taken) k u v row way) :
  ∃ (e:Nat) (u' v' vm wu:List Int) (wj:List Bool) (ρ:List Int),Q9 qa qb from_ taken (m:Int) k row 100 0 u v way (Xu (m+1) 0 (List.replicate (m+1) 0)) (List.replicate (m+1) false)=some ((e:Int),u',v',vm,wu,wj) ∧
   XR vm 100 (e:Int) (row.set 0 (1+(k:Int)))=some ρ∧KX n m (cst qa qb from_ taken) (k+1) u' v' ρ vm:=by
 have hn:=hP.n1
 have hm:=hP.m1
 obtain⟨S',e,u',v',vm,wu,wj,e1,d,e2,e3⟩:=Lt hP hk h.lenr h.rowb h.rowk h.inj (h.free hP hk) 100 [] 0 u v way _ _ (h.start hP hk) (by rw[F9 h.lenr];omega) (by simp;omega)
 obtain⟨ρ,e4,h'⟩:=d.done hP hk h e2 e3
 exact⟨e,u',v',vm,wu,wj,ρ,e1,e4,h'⟩
end
section
variable {n m qv:Nat} {qa:List (List Int)} {qb from_:Int} {taken:List Bool}
theorem rounds (hP:Bn n m qv (cst qa qb from_ taken) qb):∀ (f k:Nat) (u v row way:List Int),f+k=n→KX n m (cst qa qb from_ taken) k u v row way →
  ∃ u' v' y4 vm:List Int,Jw qa qb from_ taken (m:Int) f k u v row way=(u',v',y4,vm)∧KX n m (cst qa qb from_ taken) n u' v' y4 vm
 | 0,k,u,v,row,way,hf,h=>⟨u,v,row,way,rfl,by rw[show n=k by omega];rw[show n=k by omega] at h;exact h⟩
 | f+1,k,u,v,row,way,hf,h=>by
  have hn:=hP.n1
  have hm:=hP.m1
  obtain⟨e,u',v',vm,wu,wj,ρ,e1,e2,h'⟩:=phase hP (by omega) h
  have em:(w64 ((m:Int)+1)).toNat=m+1:=by rw[Zu (by omega)];omega
  unfold Jw Xq
  simp only[em,e1,cX,e2]
  exact rounds hP f (k+1) u' v' ρ vm (by omega) h'
theorem Ic (hP:Bn n m qv (cst qa qb from_ taken) qb):KX n m (cst qa qb from_ taken) 0 (List.replicate (n+1) 0) (List.replicate (m+1) 0) (List.replicate (m+1) 0) (List.replicate (m+1) 0):=by
 have hn:=hP.n1
 have hm:=hP.m1
 refine⟨bL ..,bL ..,bL ..,bL ..,fun j _=>by rw[Ug];omega,fun j _ _=>by rw[Ug];omega,fun i j _ _ _ _ _ q=>absurd (Ug _ _) q,fun r h1 h2=>by omega,fun r j h1 h2 h3 h4=>?_,fun j _ _ q=>absurd (Ug _ _) q,fun j _ _=>by rw[Ug];exact⟨by omega,fun _=>rfl⟩,fun r _=>by rw[Ug];omega,fun r _ _=>Ug _ _,fun j _=>by rw[Ug];omega,fun j _=>by rw[Ug];omega⟩
 unfold Ku
 rw[Ug,Ug]
 have:=hP.cb r j h1 h2 h3 h4
 omega
end
end Go.Sky
namespace Go.Sky
open Go Go.Eng
def sm:Nat→(Nat→Int)→Int
 | 0,_=>0
 | n+1,f=>f 0+sm n (fun i=>f (i+1))
theorem JH:∀ {n:Nat} {f g:Nat→Int},(∀ i,i<n→f i=g i)→sm n f=sm n g
 | 0,_,_,_=>rfl
 | n+1,f,g,h=>by unfold sm;rw[h 0 (by omega),JH (fun i hi=>h (i+1) (by omega))]
theorem RG:∀ (n:Nat) (f g:Nat→Int),sm n (fun i=>f i+g i)=sm n f+sm n g
 | 0,_,_=>rfl
 | n+1,f,g=>by
  show f 0+g 0+sm n (fun i=>f (i+1)+g (i+1))=(f 0+sm n (fun i=>f (i+1)))+(g 0+sm n (fun i=>g (i+1)))
  rw[RG n (fun i=>f (i+1)) (fun i=>g (i+1))];omega
theorem CU:∀ {n:Nat} {f g:Nat→Int},(∀ i,i<n→f i≤g i)→sm n f≤sm n g
 | 0,_,_,_=>dL _
 | n+1,f,g,h=>by
  have a:=h 0 (by omega)
  have b:=CU (n:=n) (f:=fun i=>f (i+1)) (g:=fun i=>g (i+1)) (fun i hi=>h (i+1) (by omega))
  unfold sm;omega
theorem B2:∀ (n:Nat),sm n (fun _=>0)=0
 | 0=>rfl
 | n+1=>by unfold sm;rw[B2 n];rfl
theorem Lu:∀ (n:Nat) (c:Int),sm n (fun _=>c)=(n:Int)*c
 | 0,c=>by simp[sm]
 | n+1,c=>by unfold sm;rw[Lu n c,gL,gQ];simp[Int.add_comm]
theorem PU:∀ {n:Nat} {f:Nat→Int},(∀ i,i<n→0≤f i)→∀ i,i<n→f i≤sm n f
 | 0,_,_,i,hi=>absurd hi (cF _)
 | n+1,f,h,i,hi=>by
  have z:0≤sm n (fun i=>f (i+1)):=by rw[← B2 n];exact CU fun i hi=>h (i+1) (by omega)
  have z0:=h 0 (by omega)
  unfold sm
  cases i with
  | zero=>omega
  | succ i =>
   have:=PU (n:=n) (f:=fun i=>f (i+1)) (fun i hi=>h (i+1) (by omega)) i (by omega)
   omega
theorem RH:∀ {n:Nat} {f:Nat→Int} {a:Nat},a<n→sm n f=sm n (fun i=>if i=a then 0 else f i)+f a
 | 0,_,_,h=>absurd h (cF _)
 | n+1,f,a,h=>by
  show f 0+sm n (fun i=>f (i+1))=((if 0=a then 0 else f 0)+sm n (fun i=>if i+1=a then 0 else f (i+1)))+f a
  cases a with
  | zero =>
   rw[if_pos rfl,JH (n:=n) (f:=fun i=>if i+1=0 then 0 else f (i+1)) (g:=fun i=>f (i+1)) (fun i _=>if_neg (by omega))]
   omega
  | succ a =>
   have:=RH (n:=n) (f:=fun i=>f (i+1)) (a:=a) (by omega)
   rw[this,if_neg (by omega),JH (n:=n) (f:=fun i=>if i+1=a+1 then 0 else f (i+1)) (g:=fun i=>if i=a then 0 else f (i+1)) (fun i _=>by
    by_cases c:i=a
    ·rw[if_pos c,if_pos (by omega)]
    ·rw[if_neg c,if_neg (by omega)])]
   omega
structure DZ (n m:Nat) (σ:Nat→Nat):Prop where
 lt:∀ r,r<n→σ r<m
 inj:∀ r s,r<n→s<n→σ r=σ s→r=s
theorem DZ.tail {n m:Nat} {σ:Nat→Nat} (h:DZ (n+1) m σ):DZ n m (fun r=>σ (r+1)) :=
 ⟨fun r hr=>h.lt (r+1) (by omega),fun r s hr hs e=>by have:=h.inj (r+1) (s+1) (by omega) (by omega) e;omega⟩
theorem NH:∀ {n m:Nat} {σ:Nat→Nat} {g:Nat→Int},DZ n m σ→(∀ j,j<m→(∀ r,r<n→σ r≠j)→g j=0)→sm m g=sm n (fun r=>g (σ r))
 | 0,m,σ,g,_,h=>by
  rw[JH (n:=m) (f:=g) (g:=fun _=>0) (fun j hj=>h j hj fun r hr=>absurd hr (cF _)),B2];rfl
 | n+1,m,σ,g,hi,h=>by
  have ne:∀ r,r<n→σ (r+1)≠σ 0:=fun r hr e=>by have:=hi.inj (r+1) 0 (by omega) (by omega) e;omega
  rw[RH (n:=m) (f:=g) (a:=σ 0) (hi.lt 0 (by omega)),NH (n:=n) (m:=m) (g:=fun i=>if i=σ 0 then 0 else g i) hi.tail (fun j hj hn=>?_)]
  ·show _=g (σ 0)+sm n (fun r=>g (σ (r+1)))
   rw[JH (n:=n) (f:=fun r=>if σ (r+1)=σ 0 then 0 else g (σ (r+1))) (g:=fun r=>g (σ (r+1))) (fun r hr=>if_neg (ne r hr))]
   omega
  ·show (if j=σ 0 then 0 else g j)=0
   by_cases c:j=σ 0
   ·exact if_pos c
   ·rw[if_neg c]
    refine h j hj fun r hr e=>?_
    cases r with
    | zero=>exact c e.symm
    | succ r=>exact hn r (by omega) e
theorem Dp:∀ {n m:Nat} {σ:Nat→Nat} {g:Nat→Int},DZ n m σ→(∀ j,j<m→g j≤0)→sm m g≤sm n (fun r=>g (σ r))
 | 0,m,σ,g,_,h=>by
  have:=CU (n:=m) (f:=g) (g:=fun _=>0) h
  rw[B2] at this;exact this
 | n+1,m,σ,g,hi,h=>by
  have ne:∀ r,r<n→σ (r+1)≠σ 0:=fun r hr e=>by have:=hi.inj (r+1) 0 (by omega) (by omega) e;omega
  have ih:=Dp (n:=n) (m:=m) (g:=fun i=>if i=σ 0 then 0 else g i) hi.tail (fun j hj=>by
   show (if j=σ 0 then 0 else g j)≤0
   by_cases c:j=σ 0
   ·rw[if_pos c];exact dL _
   ·rw[if_neg c];exact h j hj)
  rw[RH (n:=m) (f:=g) (a:=σ 0) (hi.lt 0 (by omega))]
  show _≤g (σ 0)+sm n (fun r=>g (σ (r+1)))
  rw[JH (n:=n) (f:=fun r=>if σ (r+1)=σ 0 then 0 else g (σ (r+1))) (g:=fun r=>g (σ (r+1))) (fun r hr=>if_neg (ne r hr))] at ih
  omega
def Dq (c:Int→Nat→Int) (row:List Int) (j:Nat):Int:=if gt row (j+1)>0 then c (gt row (j+1)) (j+1) else 0
section
variable {n m:Nat} {c:Int→Nat→Int} {u v row way:List Int}
theorem KX.best (h:KX n m c n u v row way):∃ σ,DZ n m σ∧sm m (Dq c row)=sm n (fun r=>c ((r+1:Nat):Int) (σ r+1))∧∀ τ,DZ n m τ→sm n (fun r=>c ((r+1:Nat):Int) (σ r+1))≤sm n (fun r=>c ((r+1:Nat):Int) (τ r+1)):=by
 have ex:∀ r:Nat,∃ j:Nat,r<n→j<m∧gt row (j+1)=((r+1:Nat):Int):=fun r=>by
  by_cases hr:r<n
  ·obtain⟨j,j1,j2,j3⟩:=h.sur (r+1) (by omega) (by omega)
   exact⟨j-1,fun _=>⟨by omega,by rw[show j-1+1=j by omega];exact j3⟩⟩
  ·exact⟨0,fun q=>absurd q hr⟩
 obtain⟨σ,hσ⟩:=Classical.axiomOfChoice ex
 have rh:DZ n m σ:=⟨fun r hr=>(hσ r hr).1,fun r s hr hs e=>by
  have a:=(hσ r hr).2
  have b:=(hσ s hs).2
  rw[e,b] at a
  omega⟩
 have off:∀ j,j<m→(∀ r,r<n→σ r≠j)→gt row (j+1)=0:=fun j hj hn=>by
  by_cases z:gt row (j+1)=0
  ·exact z
  ·exfalso
   have b:=h.rowb (j+1) (by omega)
   refine hn ((gt row (j+1)).toNat-1) (by omega) ?_
   have q:=hσ ((gt row (j+1)).toNat-1) (by omega)
   have:=h.inj (σ ((gt row (j+1)).toNat-1)+1) (j+1) (by omega) (by omega) (by omega) (by omega) (by omega) (by omega)
   omega
 refine⟨σ,rh,?_,fun τ hτ=>?_⟩
 ·rw[NH rh fun j hj hn=>by unfold Dq;rw[off j hj hn];rfl]
  refine JH fun r hr=>?_
  unfold Dq
  rw[(hσ r hr).2,if_pos (by omega)]
 ·have e1:sm n (fun r=>c ((r+1:Nat):Int) (σ r+1))=sm n (fun r=>gt u (r+1))+sm n (fun r=>gt v (σ r+1)):=by
   rw[← RG]
   refine JH fun r hr=>?_
   obtain⟨q1,q2⟩:=hσ r hr
   have:=h.tight (σ r+1) (by omega) (by omega) (by rw[q2];omega)
   rw[q2] at this
   unfold Ku at this
   rw[aP] at this
   omega
  have e2:sm n (fun r=>gt u (r+1))+sm n (fun r=>gt v (τ r+1))≤sm n (fun r=>c ((r+1:Nat):Int) (τ r+1)):=by
   rw[← RG]
   refine CU fun r hr=>?_
   have:=h.red (r+1) (τ r+1) (by omega) (by omega) (by omega) (by have:=hτ.lt r hr;omega)
   unfold Ku at this
   rw[aP] at this
   omega
  have e3:sm m (fun j=>gt v (j+1))=sm n (fun r=>gt v (σ r+1)):=NH (g:=fun j=>gt v (j+1)) rh fun j hj hn=>(h.vneg (j+1) (by omega) (by omega)).2 (off j hj hn)
  have e4:sm m (fun j=>gt v (j+1))≤sm n (fun r=>gt v (τ r+1)):=Dp (g:=fun j=>gt v (j+1)) hτ fun j hj=>(h.vneg (j+1) (by omega) (by omega)).1
  omega
end
section
variable {n m qv:Nat} {qa:List (List Int)} {qb from_:Int} {taken:List Bool} {row:List Int}
theorem summed (hm:m≤64) (hr:∀ j,j<m→gt row (j+1)>0→1≤gt row (j+1)∧gt row (j+1)≤1000) (hc:∀ j,j<m→gt row (j+1)>0→0≤cst qa qb from_ taken (gt row (j+1)) (j+1)∧cst qa qb from_ taken (gt row (j+1)) (j+1)≤36028797018963968) :
  ∀ (f k:Nat) (s:Int),f+k=m→0≤s→s≤(k:Int)*36028797018963968→QY qa qb from_ taken row f k s=s+sm f (fun i=>Dq (cst qa qb from_ taken) row (k+i)):=by
 intro f
 induction f with
 | zero =>
  intro k s _ _ _
  show s=s+0
  omega
 | succ f ih =>
  intro k s hf h0 h1
  have ih:=ih (k+1)
  have ek:(1+(k:Int)).toNat=k+1:=by omega
  unfold QY sm
  simp only[ek,bI]
  have eg:sm f (fun i=>Dq (cst qa qb from_ taken) row (k+(i+1)))=sm f (fun i=>Dq (cst qa qb from_ taken) row (k+1+i)):=JH fun i _=>by rw[show k+(i+1)=k+1+i by omega]
  rw[eg]
  by_cases c:gt row (k+1)>0
  ·have hrk:=hr k (by omega) c
   have hck:=hc k (by omega) c
   rw[show decide (row[k+1]?.getD 0>0)=true from decide_eq_true c,cond_true]
   have ec:YT (w64 ((row[k+1]?.getD 0)-1)) (w64 (1+(k:Int)-1)) (((qa.drop from_.toNat)[0]?.getD []).length:Int) qb taken (qa.drop from_.toNat)=cst qa qb from_ taken (gt row (k+1)) (k+1):=by
    unfold cst
    rw[show row[k+1]?.getD 0=gt row (k+1) from rfl,Zu (x:=gt row (k+1)-1) (by omega),Zu (x:=1+(k:Int)-1) (by omega),show 1+(k:Int)-1=((k+1:Nat):Int)-1 by omega]
   rw[ec,Zu (by omega),ih _ (by omega) (by omega) (by omega)]
   have:Dq (cst qa qb from_ taken) row k=cst qa qb from_ taken (gt row (k+1)) (k+1):=by unfold Dq;rw[if_pos c]
   omega
  ·rw[show decide (row[k+1]?.getD 0>0)=false from decide_eq_false c,cond_false,ih _ (by omega) (by omega) (by omega)]
   have:Dq (cst qa qb from_ taken) row k=0:=by unfold Dq;rw[if_neg c]
   omega
theorem PV (hP:Bn n m qv (cst qa qb from_ taken) qb) (hn:(qa.drop from_.toNat).length=n) (j9:((qa.drop from_.toNat)[0]?.getD []).length=qv) :
  ∃ σ,DZ n m σ∧ZM qa qb from_ taken=sm n (fun r=>cst qa qb from_ taken ((r+1:Nat):Int) (σ r+1))∧∀ τ,DZ n m τ→ZM qa qb from_ taken≤sm n (fun r=>cst qa qb from_ taken ((r+1:Nat):Int) (τ r+1)):=by
 have hn1:=hP.n1
 have hm:=hP.m1
 obtain⟨u',v',y4,vm,e1,h⟩:=rounds hP n 0 _ _ _ _ (by omega) (Ic hP)
 obtain⟨σ,s1,s2,s3⟩:=h.best
 have em:w64 ((qv:Int)+(n:Int))=(m:Int):=by rw[Zu (by omega)];omega
 have ev:ZM qa qb from_ taken=sm m (Dq (cst qa qb from_ taken) y4):=by
  unfold ZM
  simp only[hn,j9,em]
  rw[show ((n:Int)==0)=false by simp;omega,cond_false,show (w64 ((n:Int)+1)).toNat=n+1 by rw[Zu (by omega)];omega,show (w64 ((m:Int)+1)).toNat=m+1 by rw[Zu (by omega)];omega,aP,aP,e1]
  unfold Xq
  simp only
  have rb:=h.rowb
  rw[summed (m:=m) (by omega) (fun j hj q=>by have:=rb (j+1) (by omega);omega) (fun j hj q=>by
   have b:=rb (j+1) (by omega)
   have:=hP.cb (gt y4 (j+1)).toNat (j+1) (by omega) (by omega) (by omega) (by omega)
   rwa [show (((gt y4 (j+1)).toNat:Nat):Int)=gt y4 (j+1) by omega] at this) m 0 0 (by omega) (by omega) (by omega),Int.zero_add]
  exact JH fun i _=>by rw[bB]
 rw[ev,s2]
 exact⟨σ,s1,rfl,s3⟩
end
end Go.Sky
namespace Go.Sky
open Go Go.Eng
structure Good (rows:List (List Int)) (qv:Nat) (qb:Int):Prop where
 n1:rows.length≤32
 c1:qv≤32
 mb:0≤qb∧qb≤1099511627776
 len:∀ r∈rows,r.length=qv
 bnd:∀ r∈rows,∀ c∈r,-1≤c∧c≤1099511627776
inductive Val (qb:Int):List (List Int)→List Bool→Int→Prop
 | nil (taken:List Bool):Val qb [] taken 0
 | skip {row:List Int} {rows:List (List Int)} {taken:List Bool} {t:Int}:Val qb rows taken t→Val qb (row::rows) taken (qb+t)
 | pick {row:List Int} {rows:List (List Int)} {taken:List Bool} {t:Int} (k:Nat):k<row.length→gb taken k=false→0≤gt row k→Val qb rows (taken.set k true) t→Val qb (row::rows) taken (gt row k+t)
def rw_ (rows:List (List Int)) (r:Nat):List Int:=rows[r]?.getD []
theorem Ds {rows:List (List Int)} {r:Nat} (h:r<rows.length):rw_ rows r∈rows:=by
 unfold rw_;rw[aS h];exact fJ h
theorem PW {l:List Int} {k:Nat} (h:k<l.length):gt l k∈l:=by
 unfold gt;rw[aS h];exact fJ h
structure Asg (rows:List (List Int)) (taken:List Bool) (qv:Nat) (τ:Nat→Nat):Prop where
 ok:∀ r,r<rows.length→τ r≠0→τ r≤qv∧gb taken (τ r-1)=false∧0≤gt (rw_ rows r) (τ r-1)
 inj:∀ r s,r<rows.length→s<rows.length→τ r=τ s→τ r≠0→r=s
def vl (rows:List (List Int)) (qb:Int) (τ:Nat→Nat) (r:Nat):Int:=if τ r=0 then qb else gt (rw_ rows r) (τ r-1)
theorem W8 {qv:Nat} {qb:Int}:∀ (rows:List (List Int)) (taken:List Bool) (τ:Nat→Nat),(∀ r∈rows,r.length=qv)→taken.length=qv→Asg rows taken qv τ→Val qb rows taken (sm rows.length (vl rows qb τ))
 | [],taken,τ,_,_,_=>.nil taken
 | row::rows,taken,τ,hl,ht,h=>by
  have es:sm (row::rows).length (vl (row::rows) qb τ)=vl (row::rows) qb τ 0+sm rows.length (vl rows qb (fun r=>τ (r+1))):=rfl
  have lr:=hl row (aM ..)
  rw[es]
  by_cases c:τ 0=0
  ·rw[show vl (row::rows) qb τ 0=qb from if_pos c]
   refine .skip (W8 rows taken _ (fun r hr=>hl r (aJ _ hr)) ht ⟨fun r hr hz=>h.ok (r+1) (by rw[aG];omega) hz,fun r s hr hs e hz=>?_⟩)
   have:=h.inj (r+1) (s+1) (by rw[aG];omega) (by rw[aG];omega) e hz
   omega
  ·rw[show vl (row::rows) qb τ 0=gt row (τ 0-1) from if_neg c]
   obtain⟨o1,o2,o3⟩:=h.ok 0 (by rw[aG];omega) c
   refine .pick (τ 0-1) (by omega) o2 o3 (W8 rows (taken.set (τ 0-1) true) _ (fun r hr=>hl r (aJ _ hr)) (by rw[aQ];exact ht) ⟨fun r hr hz=>?_,fun r s hr hs e hz=>?_⟩)
   ·obtain⟨p1,p2,p3⟩:=h.ok (r+1) (by rw[aG];omega) hz
    refine⟨p1,?_,p3⟩
    rw[NG _ _ (by omega),if_neg fun q=>?_]
    ·exact p2
    ·have:=h.inj (r+1) 0 (by rw[aG];omega) (by rw[aG];omega) (by omega) hz
     omega
   ·have:=h.inj (r+1) (s+1) (by rw[aG];omega) (by rw[aG];omega) e hz
    omega
theorem RI {qv:Nat} {qb:Int} {rows:List (List Int)} {taken:List Bool} {t:Int} (h:Val qb rows taken t):(∀ r∈rows,r.length=qv)→taken.length=qv→∃ τ,Asg rows taken qv τ∧t=sm rows.length (vl rows qb τ):=by
 induction h with
 | nil taken=>exact fun _ _=>⟨fun _=>0,⟨fun r hr=>absurd hr (cF _),fun r s hr=>absurd hr (cF _)⟩,rfl⟩
 | @skip row rows taken t _ ih =>
  intro hl ht
  obtain⟨τ,a,e⟩:=ih (fun r hr=>hl r (aJ _ hr)) ht
  refine⟨fun r=>match r with|0=>0|r+1=>τ r,⟨fun r hr hz=>?_,fun r s hr hs q hz=>?_⟩,?_⟩
  ·cases r with
   | zero=>exact absurd rfl hz
   | succ r=>exact a.ok r (by rw[aG] at hr;omega) hz
  ·cases r with
   | zero=>exact absurd rfl hz
   | succ r =>
    cases s with
    | zero=>exact absurd q hz
    | succ s=>rw[a.inj r s (by rw[aG] at hr;omega) (by rw[aG] at hs;omega) q hz]
  ·rw[e];rfl
 | @pick row rows taken t k hk hf h0 _ ih =>
  intro hl ht
  have lr:=hl row (aM ..)
  obtain⟨τ,a,e⟩:=ih (fun r hr=>hl r (aJ _ hr)) (by rw[aQ];exact ht)
  have ne:∀ r,r<rows.length→τ r≠k+1:=fun r hr q=>by
   obtain⟨_,p2,_⟩:=a.ok r hr (by omega)
   rw[q,fZ,NG _ _ (by omega),if_pos rfl] at p2
   cases p2
  refine⟨fun r=>match r with|0=>k+1|r+1=>τ r,⟨fun r hr hz=>?_,fun r s hr hs q hz=>?_⟩,?_⟩
  ·cases r with
   | zero=>exact⟨by show k+1≤qv;omega,hf,h0⟩
   | succ r =>
    have hr':r<rows.length:=by rw[aG] at hr;omega
    obtain⟨p1,p2,p3⟩:=a.ok r hr' hz
    refine⟨p1,?_,p3⟩
    have nr:=ne r hr'
    have hz':τ r≠0:=hz
    rw[NG _ _ (by omega),if_neg (by omega)] at p2
    exact p2
  ·cases r with
   | zero =>
    cases s with
    | zero=>rfl
    | succ s=>exact absurd (show τ s=k+1 from q.symm) (ne s (by rw[aG] at hs;omega))
   | succ r =>
    cases s with
    | zero=>exact absurd (show τ r=k+1 from q) (ne r (by rw[aG] at hr;omega))
    | succ s=>rw[a.inj r s (by rw[aG] at hr;omega) (by rw[aG] at hs;omega) q hz]
  ·rw[e];rfl
section
variable {qv:Nat} {qa:List (List Int)} {qb from_:Int} {taken:List Bool}
theorem GX (j9:((qa.drop from_.toNat)[0]?.getD []).length=qv) (r s:Nat) (_hr:r<1000) (hs:s<1000) (h:qv≤s):cst qa qb from_ taken ((r+1:Nat):Int) (s+1)=if s=qv+r then qb else 36028797018963968:=by
 unfold cst YT
 rw[j9,show decide (((s+1:Nat):Int)-1≥(qv:Int))=true by simp;omega,cond_true,Zu (x:=((s+1:Nat):Int)-1-(qv:Int)) (by omega)]
 by_cases c:s=qv+r
 ·rw[if_pos c,show ((((s+1:Nat):Int)-1-(qv:Int))==((r+1:Nat):Int)-1)=true by simp;omega,cond_true]
 ·rw[if_neg c,show ((((s+1:Nat):Int)-1-(qv:Int))==((r+1:Nat):Int)-1)=false by simp;omega,cond_false]
theorem NI (j9:((qa.drop from_.toNat)[0]?.getD []).length=qv) (r s:Nat) (h:s<qv):cst qa qb from_ taken ((r+1:Nat):Int) (s+1)=if gb taken s=true then 36028797018963968 else if gt (rw_ (qa.drop from_.toNat) r) s<0 then 36028797018963968 else gt (rw_ (qa.drop from_.toNat) r) s:=by
 unfold cst YT
 rw[j9,show decide (((s+1:Nat):Int)-1≥(qv:Int))=false by simp;omega,cond_false,show (((s+1:Nat):Int)-1).toNat=s by omega,show (((r+1:Nat):Int)-1).toNat=r by omega]
 by_cases c:gb taken s=true
 ·rw[if_pos c,show taken[s]?.getD false=true from c,cond_true]
 ·have c2:gb taken s=false:=by cases q:gb taken s;rfl;exact absurd q c
  rw[if_neg c,show taken[s]?.getD false=false from c2,cond_false]
  by_cases d:gt (rw_ (qa.drop from_.toNat) r) s<0
  ·rw[if_pos d,show decide (((qa.drop from_.toNat)[r]?.getD [])[s]?.getD 0<0)=true from decide_eq_true d,cond_true]
  ·rw[if_neg d,show decide (((qa.drop from_.toNat)[r]?.getD [])[s]?.getD 0<0)=false from decide_eq_false d,cond_false];rfl
theorem Good.prob (g:Good (qa.drop from_.toNat) qv qb) (hn:0<(qa.drop from_.toNat).length):Bn (qa.drop from_.toNat).length (qv+(qa.drop from_.toNat).length) qv (cst qa qb from_ taken) qb:=by
 have n1:=g.n1
 have c1:=g.c1
 have mb:=g.mb
 have j9:((qa.drop from_.toNat)[0]?.getD []).length=qv:=g.len _ (Ds hn)
 refine⟨⟨hn,n1⟩,⟨rfl,c1⟩,mb,fun x j h1 h2 h3 h4=>?_,fun x h1 h2=>?_,fun x y h1 h2 h3 h4 h5=>?_⟩
 ·obtain⟨r,rfl⟩:∃ r,x=r+1:=⟨x-1,by omega⟩
  obtain⟨s,rfl⟩:∃ s,j=s+1:=⟨j-1,by omega⟩
  by_cases c:s<qv
  ·rw[NI j9 r s c]
   have rm:rw_ (qa.drop from_.toNat) r∈qa.drop from_.toNat:=Ds (by omega)
   have b:=g.bnd _ rm _ (PW (k:=s) (by rw[g.len _ rm];exact c))
   split
   ·omega
   ·split <;> omega
  ·rw[GX j9 r s (by omega) (by omega) (by omega)]
   split <;> omega
 ·obtain⟨r,rfl⟩:∃ r,x=r+1:=⟨x-1,by omega⟩
  exact(GX j9 r (qv+r) (by omega) (by omega) (by omega)).trans (if_pos rfl)
 ·obtain⟨r,rfl⟩:∃ r,x=r+1:=⟨x-1,by omega⟩
  obtain⟨s,rfl⟩:∃ s,y=s+1:=⟨y-1,by omega⟩
  exact(GX j9 r (qv+s) (by omega) (by omega) (by omega)).trans (if_neg (by omega))
theorem TK (g:Good (qa.drop from_.toNat) qv qb) (ht:taken.length=qv):Val qb (qa.drop from_.toNat) taken (ZM qa qb from_ taken)∧∀ t,Val qb (qa.drop from_.toNat) taken t→ZM qa qb from_ taken≤t:=by
 by_cases hn:0<(qa.drop from_.toNat).length
 ·have hP:=g.prob (taken:=taken) hn
  have n1:=g.n1
  have c1:=g.c1
  have mb:=g.mb
  have j9:((qa.drop from_.toNat)[0]?.getD []).length=qv:=g.len _ (Ds hn)
  obtain⟨σ,s1,s2,s3⟩:=PV hP rfl j9
  have small:ZM qa qb from_ taken≤35184372088832:=by
   refine dJ (s3 (fun r=>qv+r) ⟨fun r hr=>by omega,fun r s _ _ e=>by omega⟩) ?_
   rw[JH (g:=fun _=>qb) (fun r hr=>(GX j9 r (qv+r) (by omega) (by omega) (by omega)).trans (if_pos rfl)),Lu]
   have:((qa.drop from_.toNat).length:Int)*qb≤32*1099511627776:=bX (by omega) mb.2 mb.1 (by omega)
   omega
  have each:∀ r,r<(qa.drop from_.toNat).length→cst qa qb from_ taken ((r+1:Nat):Int) (σ r+1)≤35184372088832:=fun r hr=>by
   have:=PU (f:=fun r=>cst qa qb from_ taken ((r+1:Nat):Int) (σ r+1)) (fun i hi=>(hP.cb (i+1) (σ i+1) (by omega) (by omega) (by omega) (by have:=s1.lt i hi;omega)).1) r hr
   rw[← s2] at this
   exact dJ this small
  refine⟨?_,fun t hv=>?_⟩
  ·have key:∀ r,r<(qa.drop from_.toNat).length→(σ r<qv∧gb taken (σ r)=false∧0≤gt (rw_ (qa.drop from_.toNat) r) (σ r)∧cst qa qb from_ taken ((r+1:Nat):Int) (σ r+1)=gt (rw_ (qa.drop from_.toNat) r) (σ r))∨(¬ σ r<qv∧cst qa qb from_ taken ((r+1:Nat):Int) (σ r+1)=qb):=fun r hr=>by
    have e:=each r hr
    by_cases c:σ r<qv
    ·rw[NI j9 r (σ r) c] at e ⊢
     by_cases d:gb taken (σ r)=true
     ·rw[if_pos d] at e;omega
     ·by_cases f:gt (rw_ (qa.drop from_.toNat) r) (σ r)<0
      ·rw[if_neg d,if_pos f] at e;omega
      ·rw[if_neg d,if_neg f]
       exact .inl ⟨c,by cases q:gb taken (σ r);rfl;exact absurd q d,by omega,rfl⟩
    ·have lt:=s1.lt r hr
     rw[GX j9 r (σ r) (by omega) (by omega) (by omega)] at e ⊢
     by_cases d:σ r=qv+r
     ·rw[if_pos d];exact .inr ⟨c,rfl⟩
     ·rw[if_neg d] at e;omega
   have a:Asg (qa.drop from_.toNat) taken qv (fun r=>if σ r<qv then σ r+1 else 0):=by
    refine⟨fun r hr hz=>?_,fun r s hr hs e hz=>?_⟩
    ·rcases key r hr with ⟨k1,k2,k3,_⟩|⟨k1,_⟩
     ·simp only[if_pos k1,fZ]
      exact⟨k1,k2,k3⟩
     ·simp only[if_neg k1] at hz;exact absurd rfl hz
    ·by_cases c:σ r<qv
     ·by_cases d:σ s<qv
      ·simp only[if_pos c,if_pos d] at e
       exact s1.inj r s hr hs (by omega)
      ·simp only[if_pos c,if_neg d] at e;omega
     ·simp only[if_neg c] at hz;exact absurd rfl hz
   have v:=W8 (qb:=qb) _ taken _ g.len ht a
   rw[s2,JH (g:=vl (qa.drop from_.toNat) qb (fun r=>if σ r<qv then σ r+1 else 0)) fun r hr=>?_]
   ·exact v
   ·unfold vl
    rcases key r hr with ⟨k1,_,_,k4⟩|⟨k1,k2⟩
    ·simp only[if_pos k1,fZ]
     rw[k4,if_neg (by omega)]
    ·simp only[if_neg k1,if_pos]
     rw[k2]
  ·obtain⟨τ,a,e⟩:=RI (qv:=qv) hv g.len ht
   have q:=s3 (fun r=>if τ r=0 then qv+r else τ r-1) ⟨fun r hr=>?_,fun r s hr hs e=>?_⟩
   ·rw[e]
    refine dJ q (Int.le_of_eq (JH fun r hr=>?_))
    unfold vl
    by_cases c:τ r=0
    ·simp only[if_pos c]
     exact(GX j9 r (qv+r) (by omega) (by omega) (by omega)).trans (if_pos rfl)
    ·obtain⟨o1,o2,o3⟩:=a.ok r hr c
     simp only[if_neg c]
     rw[NI j9 r (τ r-1) (by omega),if_neg (by rw[o2];exact Bool.false_ne_true),if_neg (by omega)]
   ·by_cases c:τ r=0
    ·simp only[if_pos c];omega
    ·simp only[if_neg c]
     have:=(a.ok r hr c).1
     omega
   ·by_cases c:τ r=0 <;> by_cases d:τ s=0
    ·simp only[if_pos c,if_pos d] at e;omega
    ·simp only[if_pos c,if_neg d] at e
     have:=(a.ok s hs d).1;omega
    ·simp only[if_neg c,if_pos d] at e
     have:=(a.ok r hr c).1;omega
    ·simp only[if_neg c,if_neg d] at e
     exact a.inj r s hr hs (by omega) c
 ·have e0:qa.drop from_.toNat=[]:=List.length_eq_zero_iff.1 (by omega)
  have el:ZM qa qb from_ taken=0:=by unfold ZM;rw[e0];rfl
  rw[el,e0]
  exact⟨.nil _,fun t hv=>by cases hv;exact dL _⟩
end
end Go.Sky
namespace Go.Sky
open Go Go.Eng
structure Vh (qa:List (List Int)) (qb from_:Int) (taken:List Bool) (r1 r2:Int):Prop where
 n1:1≤r1∧r1≤32
 m1:r2=((qa[0]?.getD []).length:Int)+r1∧(qa[0]?.getD []).length≤32
 w1:w64 (r1+1)=r1+1
 w2:w64 (r2+1)=r2+1
 prob:Bn r1.toNat r2.toNat (qa[0]?.getD []).length (cst qa qb from_ taken) qb
 rows:((qa.drop from_.toNat).length:Int)=r1
 first:((qa.drop from_.toNat)[0]?.getD []).length=(qa[0]?.getD []).length
 len:∀ r∈qa.drop from_.toNat,r.length=(qa[0]?.getD []).length
theorem Good.from {qa:List (List Int)} {qv:Nat} {qb:Int} (g:Good qa qv qb) (i:Nat):Good (qa.drop i) qv qb :=
 ⟨bH (by rw[bU];omega) g.n1,g.c1,g.mb,fun r hr=>g.len r (fM hr),fun r hr=>g.bnd r (fM hr)⟩
section
variable {qa:List (List Int)} {qb from_:Int} {taken:List Bool} {r1 r2:Int}
theorem AV (hg:Good qa (qa[0]?.getD []).length qb) (h1:(r1==0)=false) (hr1:((qa.drop from_.toNat).length:Int)=r1) (hr2:w64 ((((qa.drop from_.toNat)[0]?.getD []).length:Int)+r1)=r2):Vh qa qb from_ taken r1 r2:=by
 have g:=hg.from from_.toNat
 have z:r1≠0:=by simpa using h1
 have n1:=g.n1
 have c1:=g.c1
 have first:=g.len _ (Ds (show 0<(qa.drop from_.toNat).length by omega))
 have first:((qa.drop from_.toNat)[0]?.getD []).length=(qa[0]?.getD []).length:=first
 rw[first,Zu (by omega)] at hr2
 have p:=g.prob (taken:=taken) (by omega)
 rw[show (qa.drop from_.toNat).length=r1.toNat by omega,show (qa[0]?.getD []).length+r1.toNat=r2.toNat by omega] at p
 exact⟨by omega,by omega,Zu (by omega),Zu (by omega),p,hr1,first,g.len⟩
theorem Vh.facts (s:Vh qa qb from_ taken r1 r2):(1≤r1∧r1≤32)∧(r1≤r2∧r2≤64)∧w64 (r1+1)=r1+1∧w64 (r2+1)=r2+1∧((qa.drop from_.toNat).length:Int)=r1:=by
 have a:=s.n1
 have b:=s.m1
 exact⟨a,by omega,s.w1,s.w2,s.rows⟩
theorem TM (s:Vh qa qb from_ taken r1 r2):KX r1.toNat r2.toNat (cst qa qb from_ taken) 0 (List.replicate ((w64 (r1+1)).toNat) 0) (List.replicate ((w64 (r2+1)).toNat) 0) (List.replicate ((w64 (r2+1)).toNat) 0) (List.replicate ((w64 (r2+1)).toNat) 0):=by
 have a:=s.facts
 rw[s.w1,s.w2,show (r1+1).toNat=r1.toNat+1 by omega,show (r2+1).toNat=r2.toNat+1 by omega]
 exact Ic s.prob
theorem PX {n m k:Nat} {c:Int→Nat→Int} {u v row way:List Int} (h:KX n m c k u v row way) (hk:k≤n) (hd:n-k=0):KX n m c n u v row way:=by
 rwa [show k=n by omega] at h
def Rnd (qa:List (List Int)) (qb from_:Int) (taken:List Bool) (r1 r2:Int) (k:Nat) (row:List Int) (at_:Int) (u v way low:List Int) (used:List Bool):Prop :=
 ∃ (S:List Nat) (a:Nat),at_=(a:Int)∧Dij r1.toNat r2.toNat (cst qa qb from_ taken) k row S a u v way low used∧1≤gt (Xb row k) a
def Found (qa:List (List Int)) (qb from_:Int) (taken:List Bool) (r1 r2:Int) (k:Nat) (row:List Int) (at_:Int) (u v way low:List Int) (used:List Bool):Prop :=
 ∃ (S:List Nat) (a:Nat),at_=(a:Int)∧Dij r1.toNat r2.toNat (cst qa qb from_ taken) k row S a u v way low used∧gt (Xb row k) a=0∧1≤a
variable {k:Nat} {u v row way low:List Int} {used:List Bool} {at_:Int}
theorem TN (s:Vh qa qb from_ taken r1 r2) (h:KX r1.toNat r2.toNat (cst qa qb from_ taken) k u v row way) (hk:k<r1.toNat) {R:List Int} (e1:R=Xu ((w64 (r2+1)).toNat) 0 (List.replicate ((w64 (r2+1)).toNat) 0)) (e2:R=low) :
  Rnd qa qb from_ taken r1 r2 k row 0 u v way low (List.replicate ((w64 (r2+1)).toNat) false):=by
 have a:=s.facts
 rw[e2] at e1
 rw[e1,s.w2,show (r2+1).toNat=r2.toNat+1 by omega]
 exact⟨[],0,rfl,h.start s.prob hk,by rw[F9 h.lenr];omega⟩
theorem TO (s:Vh qa qb from_ taken r1 r2) (h:KX r1.toNat r2.toNat (cst qa qb from_ taken) k u v row way) (hk:k<r1.toNat) {R:List Int} (e1:R=Xu ((w64 (r2+1)).toNat) 0 (List.replicate ((w64 (r2+1)).toNat) 0)) (e2:R=low) :
  ∃ R,Q9 qa qb from_ taken r2 k row 100 0 u v way low (List.replicate ((w64 (r2+1)).toNat) false)=some R:=by
 have a:=s.facts
 obtain⟨e,u',v',vm,wu,wj,ρ,q1,_⟩:=phase s.prob hk h
 rw[e2] at e1
 rw[e1,s.w2,show (r2+1).toNat=r2.toNat+1 by omega]
 rw[show ((r2.toNat:Nat):Int)=r2 by omega] at q1
 exact⟨_,q1⟩
theorem RJ (s:Vh qa qb from_ taken r1 r2) (h:KX r1.toNat r2.toNat (cst qa qb from_ taken) k u v row way) (hk:k<r1.toNat) {u3 v3 way3:List Int} (d:Rnd qa qb from_ taken r1 r2 k row at_ u3 v3 way3 low used) :
  (0≤at_∧at_≤r2)∧1≤((row.set 0 (1+(k:Int)))[at_.toNat]?.getD 0)∧((row.set 0 (1+(k:Int)))[at_.toNat]?.getD 0)≤r1:=by
 have f:=s.facts
 obtain⟨S,a,rfl,q1,q2⟩:=d
 have am:=q1.le a (aM ..)
 rw[aP]
 refine⟨by omega,q2,?_⟩
 show gt (Xb row k) a≤r1
 by_cases a0:a=0
 ·rw[a0,F9 h.lenr];omega
 ·rw[Lr h.lenr (by omega)]
  have:=h.rowb a am
  omega
theorem row_in (s:Vh qa qb from_ taken r1 r2) (h:KX r1.toNat r2.toNat (cst qa qb from_ taken) k u v row way) (hk:k<r1.toNat) {j:Nat} (hj:j≤r2.toNat) :
  0≤((row.set 0 (1+(k:Int)))[j]?.getD 0)∧((row.set 0 (1+(k:Int)))[j]?.getD 0)≤r1:=by
 have f:=s.facts
 show 0≤gt (Xb row k) j∧gt (Xb row k) j≤r1
 by_cases a0:j=0
 ·rw[a0,F9 h.lenr];omega
 ·rw[Lr h.lenr (by omega)]
  have:=h.rowb j hj
  omega
theorem NJ (s:Vh qa qb from_ taken r1 r2) (h:KX r1.toNat r2.toNat (cst qa qb from_ taken) k u v row way) (hk:k<r1.toNat) {u3 v3 way3:List Int} (d:Rnd qa qb from_ taken r1 r2 k row at_ u3 v3 way3 low used)
  {R4:Int×Int×List Int×List Int} {δ nx:Int} {km jx:List Int} (e1:R4=Xd qa qb from_ taken k row at_ u3 v3 used r2.toNat 0 1152921504606846976 0 way3 low) (e2:R4=(δ,nx,km,jx)) :
  ∃ (S:List Nat) (a b:Nat) (u6 v6 vo:List Int),at_=(a:Int)∧nx=(b:Int)∧1≤b∧b≤r2.toNat∧X9 k row δ (used.set a true) 0 u3 v3 jx=(u6,v6,vo)∧Dij r1.toNat r2.toNat (cst qa qb from_ taken) k row (a::S) b u6 v6 km vo (used.set a true):=by
 have hP:=s.prob
 obtain⟨S,a,rfl,q1,q2⟩:=d
 obtain⟨δ',b,vm,wu,u6,v6,vo,p1,p2,p3,p4,p5⟩:=Ls hP hk h.lenr h.rowb h.rowk h.inj (h.free hP hk) q1 q2
 rw[e2,p1] at e1
 injection e1 with e3 e4
 injection e4 with e5 e6
 injection e6 with e7 e8
 subst e3 e5 e7 e8
 exact⟨S,a,b,u6,v6,vo,rfl,rfl,p3,p4,p2,p5⟩
theorem E3 (s:Vh qa qb from_ taken r1 r2) (h:KX r1.toNat r2.toNat (cst qa qb from_ taken) k u v row way) (hk:k<r1.toNat) {u3 v3 way3:List Int} (d:Rnd qa qb from_ taken r1 r2 k row at_ u3 v3 way3 low used)
  {R4:Int×Int×List Int×List Int} {δ nx:Int} {km jx:List Int} (e1:R4=Xd qa qb from_ taken k row at_ u3 v3 used r2.toNat 0 1152921504606846976 0 way3 low) (e2:R4=(δ,nx,km,jx)):1≤nx∧nx≤r2:=by
 have f:=s.facts
 obtain⟨S,a,b,u6,v6,vo,_,q1,q2,q3,_⟩:=NJ s h hk d e1 e2
 omega
theorem PY (s:Vh qa qb from_ taken r1 r2) (h:KX r1.toNat r2.toNat (cst qa qb from_ taken) k u v row way) (hk:k<r1.toNat) {u3 v3 way3:List Int} (d:Rnd qa qb from_ taken r1 r2 k row at_ u3 v3 way3 low used)
  {R4:Int×Int×List Int×List Int} {δ nx:Int} {km jx:List Int} (e1:R4=Xd qa qb from_ taken k row at_ u3 v3 used r2.toNat 0 1152921504606846976 0 way3 low) (e2:R4=(δ,nx,km,jx))
  {R5:List Int×List Int×List Int} {u6 v6 vo:List Int} (e3:R5=X9 k row δ (used.set at_.toNat true) 0 u3 v3 jx) (e4:R5=(u6,v6,vo)) (hz:(((row.set 0 (1+(k:Int)))[nx.toNat]?.getD 0)==0)=false) :
  Rnd qa qb from_ taken r1 r2 k row nx u6 v6 km vo (used.set at_.toNat true):=by
 obtain⟨S,a,b,u7,v7,eu,rfl,rfl,q2,q3,q4,q5⟩:=NJ s h hk d e1 e2
 rw[aP,e4,q4] at e3
 injection e3 with e5 e6
 injection e6 with e7 e8
 subst e5 e7 e8
 have r:=row_in s h hk q3
 rw[aP] at hz
 rw[aP]
 have hz2:((row.set 0 (1+(k:Int)))[b]?.getD 0)≠0:=by simpa using hz
 exact⟨a::S,b,rfl,q5,by show 1≤((row.set 0 (1+(k:Int)))[b]?.getD 0);omega⟩
theorem TP (s:Vh qa qb from_ taken r1 r2) (h:KX r1.toNat r2.toNat (cst qa qb from_ taken) k u v row way) (hk:k<r1.toNat) {u3 v3 way3:List Int} (d:Rnd qa qb from_ taken r1 r2 k row at_ u3 v3 way3 low used)
  {R4:Int×Int×List Int×List Int} {δ nx:Int} {km jx:List Int} (e1:R4=Xd qa qb from_ taken k row at_ u3 v3 used r2.toNat 0 1152921504606846976 0 way3 low) (e2:R4=(δ,nx,km,jx))
  {R5:List Int×List Int×List Int} {u6 v6 vo:List Int} (e3:R5=X9 k row δ (used.set at_.toNat true) 0 u3 v3 jx) (e4:R5=(u6,v6,vo)) (hz:(((row.set 0 (1+(k:Int)))[nx.toNat]?.getD 0)==0)=true) :
  Found qa qb from_ taken r1 r2 k row nx u6 v6 km vo (used.set at_.toNat true):=by
 obtain⟨S,a,b,u7,v7,eu,rfl,rfl,q2,q3,q4,q5⟩:=NJ s h hk d e1 e2
 rw[aP,e4,q4] at e3
 injection e3 with e5 e6
 injection e6 with e7 e8
 subst e5 e7 e8
 rw[aP] at hz
 rw[aP]
 have hz2:((row.set 0 (1+(k:Int)))[b]?.getD 0)=0:=by simpa using hz
 exact⟨a::S,b,rfl,q5,hz2,q2⟩
theorem PZ (s:Vh qa qb from_ taken r1 r2) {u4 v4 wv low4:List Int} {y5:List Bool} (d:Found qa qb from_ taken r1 r2 k row at_ u4 v4 wv low4 y5):(0≤at_∧at_≤r2):=by
 have f:=s.facts
 obtain⟨S,a,rfl,q1,_⟩:=d
 have:=q1.le a (aM ..)
 omega
theorem Oa (s:Vh qa qb from_ taken r1 r2) {u4 v4 wv low4:List Int} {y5:List Bool} (d:Found qa qb from_ taken r1 r2 k row at_ u4 v4 wv low4 y5) {x:Int} (hx:0≤x∧x≤r2):0≤(wv[x.toNat]?.getD 0)∧(wv[x.toNat]?.getD 0)≤r2:=by
 have f:=s.facts
 obtain⟨S,a,rfl,q1,_⟩:=d
 have:=q1.wayb x.toNat (by omega)
 show 0≤gt wv x.toNat∧gt wv x.toNat≤r2
 omega
theorem RL (s:Vh qa qb from_ taken r1 r2) (h:KX r1.toNat r2.toNat (cst qa qb from_ taken) k u v row way) (hk:k<r1.toNat) {u4 v4 wv low4:List Int} {y5:List Bool} (d:Found qa qb from_ taken r1 r2 k row at_ u4 v4 wv low4 y5):∃ R,XR wv 100 at_ (row.set 0 (1+(k:Int)))=some R:=by
 obtain⟨S,a,rfl,q1,q2,q3⟩:=d
 obtain⟨ρ,e,_⟩:=q1.done s.prob hk h q2 q3
 exact⟨ρ,e⟩
theorem TR (s:Vh qa qb from_ taken r1 r2) (h:KX r1.toNat r2.toNat (cst qa qb from_ taken) k u v row way) (hk:k<r1.toNat) {u4 v4 wv low4:List Int} {y5:List Bool} (d:Found qa qb from_ taken r1 r2 k row at_ u4 v4 wv low4 y5)
  {R nq:List Int} (e1:XR wv 100 at_ (row.set 0 (1+(k:Int)))=some R) (e2:R=nq):KX r1.toNat r2.toNat (cst qa qb from_ taken) (k+1) u4 v4 nq wv:=by
 obtain⟨S,a,rfl,q1,q2,q3⟩:=d
 obtain⟨ρ,e,h'⟩:=q1.done s.prob hk h q2 q3
 rw[e] at e1
 injection e1 with e1
 rw[← e2,← e1];exact h'
theorem NK (s:Vh qa qb from_ taken r1 r2) {n:Nat} (h:KX r1.toNat r2.toNat (cst qa qb from_ taken) n u v row way) {j:Nat} (hj:j≤r2.toNat):0≤(row[j]?.getD 0)∧(row[j]?.getD 0)≤r1:=by
 have f:=s.facts
 have:=h.rowb j hj
 show 0≤gt row j∧gt row j≤r1
 omega
theorem Gl (s:Vh qa qb from_ taken r1 r2) (htk:taken.length=(qa[0]?.getD []).length) {x j:Int} (hx:1≤x∧x≤r1) (hj:1≤j∧j≤r2):(0≤w64 (x-1)∧w64 (x-1)<((qa.drop from_.toNat).length:Int))∧(0≤w64 (j-1)∧w64 (j-1)<4611686018427387904)∧(0≤(((qa.drop from_.toNat)[0]?.getD []).length:Int)∧(((qa.drop from_.toNat)[0]?.getD []).length:Int)<4611686018427387904)∧(taken.length:Int)=(((qa.drop from_.toNat)[0]?.getD []).length:Int)∧∀ r∈qa.drop from_.toNat,(r.length:Int)=(((qa.drop from_.toNat)[0]?.getD []).length:Int):=by
 have f:=s.facts
 have g:=s.m1
 rw[Zu (x:=x-1) (by omega),Zu (x:=j-1) (by omega),s.first]
 exact⟨by omega,by omega,by omega,by rw[htk],fun r hr=>by rw[s.len r hr]⟩
theorem E4 (s:Vh qa qb from_ taken r1 r2) {i j:Nat} (h:j<(used.set i true).length) (e:used.length=((w64 (r2+1)).toNat)):j≤r2.toNat:=by
 have f:=s.facts
 rw[aQ] at h
 omega
end
end Go.Sky
namespace Go.Sky
open Go Go.Eng
theorem CV:∀ (xs:List Int) (k:Nat),(Qk xs k=.inl ()∧∀ c∈xs,-1≤c∧c≤1099511627776)∨Qk xs k=.inr 4
 | [],_=>.inl ⟨rfl,fun _ h=>by cases h⟩
 | x::xs,k=>by
  unfold Qk
  cases hb:((decide (x<(-1)))||(decide (x>1099511627776)))
  ·rw[cond_false]
   rcases CV xs (k+1) with ⟨e,h⟩|e
   ·refine .inl ⟨e,fun c hc=>?_⟩
    rcases bA.1 hc with rfl|hc
    ·simp at hb;omega
    ·exact h c hc
   ·exact .inr e
  ·exact .inr rfl
theorem Lx {qa:List (List Int)}:∀ (xs:List (List Int)) (k:Nat),(Ql qa xs k=.inl ()∧(qa[0]?.getD []).length=(qa[0]?.getD []).length∧∀ r∈xs,r.length≤32∧r.length=(qa[0]?.getD []).length∧∀ c∈r,-1≤c∧c≤1099511627776)∨∃ e,Ql qa xs k=.inr e∧e≠0
 | [],_=>.inl ⟨rfl,rfl,fun _ h=>by cases h⟩
 | x::xs,k=>by
  unfold Ql
  cases h1:decide ((x.length:Int)>32)
  ·rw[cond_false]
   cases h2:((x.length:Int) != ((qa[0]?.getD []).length:Int))
   ·rw[cond_false]
    have h1:=of_decide_eq_false h1
    have h2:(x.length:Int)=((qa[0]?.getD []).length:Int):=by simpa using h2
    have h2:x.length=(qa[0]?.getD []).length:=by omega
    rcases CV x 0 with ⟨e,h⟩|e
    ·rw[e]
     rcases Lx xs (k+1) with ⟨e2,_,h3⟩|e2
     ·refine .inl ⟨e2,rfl,fun r hr=>?_⟩
      rcases bA.1 hr with rfl|hr
      ·exact⟨by omega,h2,h⟩
      ·exact h3 r hr
     ·exact .inr e2
    ·rw[e];exact .inr ⟨4,rfl,by decide⟩
   ·exact .inr ⟨3,rfl,by decide⟩
  ·exact .inr ⟨2,rfl,by decide⟩
theorem Dt {qa:List (List Int)} {qb:Int} (h:YC qa qb=0):Good qa (qa[0]?.getD []).length qb:=by
 unfold YC at h
 cases h1:decide ((qa.length:Int)>32)
 ·rw[h1,cond_false] at h
  have h1:=of_decide_eq_false h1
  rcases Lx (qa:=qa) qa 0 with ⟨e,_,h2⟩|⟨e,he,hz⟩
  ·rw[e] at h
   simp only[Sum.elim_inl] at h
   cases h3:((decide (qb<0))||(decide (qb>1099511627776)))
   ·simp at h3
    refine⟨by omega,?_,by omega,fun r hr=>(h2 r hr).2.1,fun r hr=>(h2 r hr).2.2⟩
    by_cases hn:0<qa.length
    ·have:=(h2 _ (Ds hn)).1
     exact this
    ·rw[List.length_eq_zero_iff.1 (show qa.length=0 by omega)];exact aN _
   ·rw[h3,cond_true] at h;exact absurd h (by decide)
  ·rw[he] at h
   simp only[Sum.elim_inr] at h
   exact absurd h hz
 ·rw[h1,cond_true] at h;exact absurd h (by decide)
theorem Du (qa:List (List Int)):QJ qa=((qa[0]?.getD []).length:Int):=by
 unfold QJ
 cases qa with
 | nil=>rfl
 | cons x xs =>
  rw[show (((x::xs).length:Int)==0)=false by simp[-List.length_cons]]
  rfl
end Go.Sky
