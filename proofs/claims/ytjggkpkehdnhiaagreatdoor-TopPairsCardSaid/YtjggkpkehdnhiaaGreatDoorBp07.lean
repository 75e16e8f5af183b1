/- Lemmas toward the given statement (part 7 of 20): Hung. Each theorem states its own conditions; nothing is assumed beyond them. -/
import Derived.Test.YtjggkpkehdnhiaaGreatDoorBp06
set_option maxRecDepth 100000
namespace Go.Sky
open Go Go.Eng
abbrev gt (l:List Int) (k:Nat):Int:=l[k]?.getD 0
abbrev gb (l:List Bool) (k:Nat):Bool:=l[k]?.getD false
theorem V0 {l:List Int} {i:Nat} (v:Int) (k:Nat) (h:i<l.length):gt (l.set i v) k=if k=i then v else gt l k:=by
 unfold gt
 by_cases e:k=i
 ·subst e;rw[if_pos rfl,dE h];rfl
 ·rw[if_neg e,dO (fun h=>e h.symm)]
theorem NA {l:List Bool} {i:Nat} (v:Bool) (k:Nat) (h:i<l.length):gb (l.set i v) k=if k=i then v else gb l k:=by
 unfold gb
 by_cases e:k=i
 ·subst e;rw[if_pos rfl,dE h];rfl
 ·rw[if_neg e,dO (fun h=>e h.symm)]
theorem VZ (n k:Nat):gt (List.replicate n (0:Int)) k=0:=by
 unfold gt
 rw[dP]
 split <;> rfl
theorem IB (n k:Nat):gb (List.replicate n false) k=false:=by
 unfold gb
 rw[dP]
 split <;> rfl
def cst (qb:List (List Int)) (qc from_:Int) (taken:List Bool) (x:Int) (j:Nat):Int :=
 YQ (x-1) ((j:Int)-1) (((qb.drop from_.toNat)[0]?.getD []).length:Int) qc taken (qb.drop from_.toNat)
def K9 (c:Int→Nat→Int) (u v:List Int) (x:Int) (j:Nat):Int:=c x j-gt u x.toNat-gt v j
structure Sc (c:Int→Nat→Int) (u v low way:List Int) (U:List Bool) (m a:Nat) (x:Int) (k:Nat) (δ next:Int) (y8 vj:List Int):Prop where
 lenw:y8.length=m+1
 lenl:vj.length=m+1
 same:∀ j,j≤m→(j=0∨k<j∨gb U j=true)→gt vj j=gt low j∧gt y8 j=gt way j
 done:∀ j,1≤j→j≤k→gb U j=false→δ≤gt vj j∧((gt vj j=K9 c u v x j∧gt y8 j=(a:Int)∧K9 c u v x j<gt low j)∨(gt vj j=gt low j∧gt y8 j=gt way j∧gt low j≤K9 c u v x j))
 best:(δ=1152921504606846976∧next=0)∨(∃ nx:Nat,next=(nx:Int)∧1≤nx∧nx≤k∧gb U nx=false∧gt vj nx=δ∧δ<1152921504606846976)
theorem An {qb:List (List Int)} {qc from_:Int} {taken:List Bool} {kk:Nat} {row u v low way:List Int} {used:List Bool} {m a:Nat} {x:Int}
  (hx:gt (row.set 0 (1+(kk:Int))) a=x) (hxb:1≤x∧x≤1000) (hm:m≤1000)
  (hu:0≤gt u x.toNat∧gt u x.toNat≤70368744177664) (hv:∀ j,j≤m → -70368744177664≤gt v j∧gt v j≤0) (hc:∀ j,1≤j→j≤m→0≤cst qb qc from_ taken x j∧cst qb qc from_ taken x j≤36028797018963968) :
  ∀ (f k:Nat) (δ next:Int) (y8 vj:List Int),f+k=m→Sc (cst qb qc from_ taken) u v low way (used.set a true) m a x k δ next y8 vj →
   ∃ (δ' next':Int) (ko yv:List Int),Xa qb qc from_ taken kk row (a:Int) u v used f k δ next y8 vj=(δ',next',ko,yv)∧Sc (cst qb qc from_ taken) u v low way (used.set a true) m a x m δ' next' ko yv
 | 0,k,δ,next,y8,vj,hf,h=>⟨δ,next,y8,vj,rfl,by rw[show m=k by omega];rw[show m=k by omega] at h;exact h⟩
 | f+1,k,δ,next,y8,vj,hf,h=>by
  have ij:(1+(k:Int)).toNat=k+1:=by omega
  have ih:=An (qb:=qb) (qc:=qc) (from_:=from_) (taken:=taken) (low:=low) (way:=way) (used:=used) hx hxb hm hu hv hc f (k+1)
  unfold Xa
  simp only[aO,ij]
  cases hU:gb (used.set a true) (k+1)
  ·rw[show (used.set a true)[k+1]?.getD false=false from hU,cond_false]
   have ec:YQ (w64 (x-1)) (w64 (1+(k:Int)-1)) (((qb.drop from_.toNat)[0]?.getD []).length:Int) qc taken (qb.drop from_.toNat)=cst qb qc from_ taken x (k+1):=by
    unfold cst
    rw[Zt (x:=x-1) (by omega),Zt (x:=1+(k:Int)-1) (by omega),show 1+(k:Int)-1=((k+1:Nat):Int)-1 by omega]
   have hcj:=hc (k+1) (by omega) (by omega)
   have hvj:=hv (k+1) (by omega)
   have er:w64 (w64 (cst qb qc from_ taken x (k+1)-gt u x.toNat)-gt v (k+1))=K9 (cst qb qc from_ taken) u v x (k+1):=by
    unfold K9
    rw[Zt (x:=cst qb qc from_ taken x (k+1)-gt u x.toNat) (by omega),Zt (by omega)]
   have ug:((row.set 0 (1+(kk:Int)))[a]?.getD 0)=x:=hx
   simp only[ug,ec]
   rw[show w64 (w64 (cst qb qc from_ taken x (k+1)-u[x.toNat]?.getD 0)-v[k+1]?.getD 0)=K9 (cst qb qc from_ taken) u v x (k+1) from er]
   obtain⟨r,hr⟩:∃ r,r=K9 (cst qb qc from_ taken) u v x (k+1):=⟨_,rfl⟩
   rw[← hr]
   have rb:r≤36169534507319296:=by rw[hr];unfold K9;omega
   obtain⟨s1,s2⟩:=h.same (k+1) (by omega) (.inr (.inl (by omega)))
   have lw:=h.lenw
   have ll:=h.lenl
   obtain⟨w7,l7,e7,q1,q2,q3,q4,q5⟩:∃ w7 l7:List Int,(cond (decide (r<vj[k+1]?.getD 0)) ((y8.set (k+1) (a:Int)),(vj.set (k+1) r)) (y8,vj))=(w7,l7)∧w7.length=m+1∧l7.length=m+1∧(∀ j,j≠k+1→gt w7 j=gt y8 j∧gt l7 j=gt vj j) ∧
     ((gt l7 (k+1)=r∧gt w7 (k+1)=(a:Int)∧r<gt low (k+1))∨(gt l7 (k+1)=gt low (k+1)∧gt w7 (k+1)=gt way (k+1)∧gt low (k+1)≤r))∧gt l7 (k+1)≤r:=by
    by_cases hl:r<gt vj (k+1)
    ·refine⟨_,_,by rw[show decide (r<vj[k+1]?.getD 0)=true from decide_eq_true hl,cond_true],by rw[aL];exact lw,by rw[aL];exact ll,fun j hj=>⟨?_,?_⟩,.inl ⟨?_,?_,by rw[← s1];exact hl⟩,?_⟩
     ·rw[V0 _ _ (by omega),if_neg hj]
     ·rw[V0 _ _ (by omega),if_neg hj]
     ·rw[V0 _ _ (by omega),if_pos rfl]
     ·rw[V0 _ _ (by omega),if_pos rfl]
     ·rw[V0 _ _ (by omega),if_pos rfl];exact cO _
    ·refine⟨_,_,by rw[show decide (r<vj[k+1]?.getD 0)=false from decide_eq_false hl,cond_false],lw,ll,fun j _=>⟨rfl,rfl⟩,.inr ⟨s1,s2,by rw[← s1];omega⟩,by omega⟩
   unfold YB
   rw[e7]
   simp only
   have base:∀ (δ' next':Int),(δ'≤δ∧δ'≤gt l7 (k+1))→((δ'=1152921504606846976∧next'=0)∨(∃ nx:Nat,next'=(nx:Int)∧1≤nx∧nx≤k+1∧gb (used.set a true) nx=false∧gt l7 nx=δ'∧δ'<1152921504606846976)) →
     Sc (cst qb qc from_ taken) u v low way (used.set a true) m a x (k+1) δ' next' w7 l7:=by
    intro δ' next' h1 h2
    refine⟨q1,q2,fun j hj hj2=>?_,fun j hj hj2 hj3=>?_,h2⟩
    ·have hne:j≠k+1:=by
      rintro rfl
      rcases hj2 with h|h|h
      ·omega
      ·omega
      ·rw[hU] at h;cases h
     rw[(q3 j hne).1,(q3 j hne).2]
     refine h.same j hj ?_
     rcases hj2 with h|h|h
     ·exact .inl h
     ·exact .inr (.inl (by omega))
     ·exact .inr (.inr h)
    ·by_cases e:j=k+1
     ·subst e;rw[← hr];exact⟨h1.2,q4⟩
     ·rw[(q3 j e).1,(q3 j e).2]
      obtain⟨d1,d2⟩:=h.done j hj (by omega) hj3
      exact⟨by omega,d2⟩
   by_cases hd:gt l7 (k+1)<δ
   ·rw[show decide (l7[k+1]?.getD 0<δ)=true from decide_eq_true hd,cond_true]
    refine ih _ _ _ _ (by omega) (base _ _ ⟨by show gt l7 (k+1)≤δ;omega,cO _⟩ (.inr ⟨k+1,by omega,by omega,aU _,hU,rfl,?_⟩))
    show gt l7 (k+1)<_
    omega
   ·rw[show decide (l7[k+1]?.getD 0<δ)=false from decide_eq_false hd,cond_false]
    refine ih _ _ _ _ (by omega) (base _ _ ⟨cO _,by omega⟩ ?_)
    rcases h.best with b|⟨nx,b1,b2,b3,b4,b5,b6⟩
    ·exact .inl b
    ·exact .inr ⟨nx,b1,b2,by omega,b4,by rw[(q3 nx (by omega)).2];exact b5,b6⟩
  ·rw[show (used.set a true)[k+1]?.getD false=true from hU,cond_true]
   refine ih _ _ _ _ (by omega) ⟨h.lenw,h.lenl,fun j hj hj2=>?_,fun j hj hj2 hj3=>?_,?_⟩
   ·refine h.same j hj ?_
    rcases hj2 with q|q|q
    ·exact .inl q
    ·exact .inr (.inl (by omega))
    ·exact .inr (.inr q)
   ·have hne:j≠k+1:=by rintro rfl;rw[hU] at hj3;cases hj3
    exact h.done j hj (by omega) hj3
   ·rcases h.best with b|⟨nx,b1,b2,b3,b4,b5,b6⟩
    ·exact .inl b
    ·exact .inr ⟨nx,b1,b2,by omega,b4,b5,b6⟩
structure Up (R u v low:List Int) (U:List Bool) (n m:Nat) (δ:Int) (k:Nat) (u5 v5 vj:List Int):Prop where
 lenu:u5.length=n+1
 lenv:v5.length=m+1
 lenl:vj.length=m+1
 vs:∀ j,j≤m→gt v5 j=if j<k∧gb U j=true then gt v j-δ else gt v j
 ls:∀ j,j≤m→gt vj j=if j<k∧gb U j=false then gt low j-δ else gt low j
 us:∀ j,j<k→j≤m→gb U j=true→gt u5 (gt R j).toNat=gt u (gt R j).toNat+δ
 un:∀ r,r≤n→(∀ j,j<k→j≤m→gb U j=true→(gt R j).toNat≠r)→gt u5 r=gt u r
theorem update {kk:Nat} {row u v low:List Int} {U:List Bool} {n m:Nat} {δ:Int} (hU:U.length=m+1) (hδ:0≤δ∧δ≤1152921504606846976)
  (hu:∀ r,r≤n→0≤gt u r∧gt u r≤70368744177664) (hv:∀ j,j≤m → -70368744177664≤gt v j∧gt v j≤0) (hl:∀ j,j≤m→0≤gt low j∧gt low j≤1152921504606846976)
  (hR:∀ j,j≤m→gb U j=true→0≤gt (row.set 0 (1+(kk:Int))) j∧gt (row.set 0 (1+(kk:Int))) j≤(n:Int))
  (p9:∀ i j,i≤m→j≤m→gb U i=true→gb U j=true→(gt (row.set 0 (1+(kk:Int))) i).toNat=(gt (row.set 0 (1+(kk:Int))) j).toNat→i=j) :
  ∀ (xs:List Bool) (k:Nat) (u5 v5 vj:List Int),U.drop k=xs→Up (row.set 0 (1+(kk:Int))) u v low U n m δ k u5 v5 vj →
   ∃ u6 v6 vp:List Int,X7 kk row δ xs k u5 v5 vj=(u6,v6,vp)∧Up (row.set 0 (1+(kk:Int))) u v low U n m δ (m+1) u6 v6 vp
 | [],k,u5,v5,vj,hx,h=>by
  have hk:m+1≤k:=by
   have:=congrArg List.length hx
   rw[aH] at this
   simp at this;omega
  refine⟨u5,v5,vj,rfl,h.lenu,h.lenv,h.lenl,fun j hj=>?_,fun j hj=>?_,fun j h1 h2 h3=>h.us j (by omega) h2 h3,fun r hr h1=>h.un r hr fun j _ h3 h4=>h1 j (by omega) h3 h4⟩
  ·rw[h.vs j hj]
   by_cases c:gb U j=true
   ·rw[if_pos ⟨by omega,c⟩,if_pos ⟨by omega,c⟩]
   ·rw[if_neg (fun q=>c q.2),if_neg (fun q=>c q.2)]
  ·rw[h.ls j hj]
   by_cases c:gb U j=false
   ·rw[if_pos ⟨by omega,c⟩,if_pos ⟨by omega,c⟩]
   ·rw[if_neg (fun q=>c q.2),if_neg (fun q=>c q.2)]
 | b::xs,k,u5,v5,vj,hx,h=>by
  have hk:k<m+1:=by
   have:=congrArg List.length hx
   rw[aH,aI] at this
   omega
  have hb:gb U k=b:=by
   have:(U.drop k)[0]?=some b:=by rw[hx];rfl
   rw[cN,bZ] at this
   unfold gb;rw[this];rfl
  have hx2:U.drop (k+1)=xs:=by rw[← dA,hx];rfl
  have ih:=update (kk:=kk) (row:=row) (low:=low) hU hδ hu hv hl hR p9 xs (k+1)
  have lu:=h.lenu
  have lv:=h.lenv
  have ll:=h.lenl
  have vk:=h.vs k (by omega)
  have lk:=h.ls k (by omega)
  rw[if_neg (fun q=>Nat.lt_irrefl _ q.1)] at vk lk
  have bv:=hv k (by omega)
  have bl:=hl k (by omega)
  unfold X7
  cases b
  ·rw[cond_false,show w64 (vj[k]?.getD 0-δ)=gt low k-δ by rw[show vj[k]?.getD 0=gt low k from lk,Zt (by omega)]]
   refine ih _ _ _ hx2 ⟨lu,lv,by rw[aL];exact ll,fun j hj=>?_,fun j hj=>?_,fun j h1 h2 h3=>?_,fun r hr h1=>h.un r hr fun j h2 h3 h4=>h1 j (by omega) h3 h4⟩
   ·rw[h.vs j hj]
    by_cases c:gb U j=true
    ·have:j≠k:=by rintro rfl;rw[hb] at c;cases c
     by_cases d:j<k
     ·rw[if_pos ⟨d,c⟩,if_pos ⟨by omega,c⟩]
     ·rw[if_neg (fun q=>d q.1),if_neg (fun q=>by omega)]
    ·rw[if_neg (fun q=>c q.2),if_neg (fun q=>c q.2)]
   ·rw[V0 _ _ (by omega)]
    by_cases e:j=k
    ·subst e;rw[if_pos rfl,if_pos ⟨by omega,hb⟩]
    ·rw[if_neg e,h.ls j hj]
     by_cases c:j<k∧gb U j=false
     ·rw[if_pos c,if_pos ⟨by omega,c.2⟩]
     ·rw[if_neg c,if_neg (fun q=>c ⟨by omega,q.2⟩)]
   ·have:j≠k:=by rintro rfl;rw[hb] at h3;cases h3
    exact h.us j (by omega) h2 h3
  ·have hRk:=hR k (by omega) hb
   obtain⟨r,hr⟩:∃ r,r=(gt (row.set 0 (1+(kk:Int))) k).toNat:=⟨_,rfl⟩
   have hrn:r≤n:=by omega
   have huk:gt u5 r=gt u r:=h.un r hrn fun j h1 h2 h3 h4=>by
    have:=p9 j k h2 (by omega) h3 hb (by rw[h4,hr])
    omega
   have bu:=hu r hrn
   rw[cond_true]
   rw[show ((row.set 0 (1+(kk:Int)))[k]?.getD 0).toNat=r from hr.symm]
   rw[show w64 (u5[r]?.getD 0+δ)=gt u r+δ by rw[show u5[r]?.getD 0=gt u r from huk,Zt (by omega)],show w64 (v5[k]?.getD 0-δ)=gt v k-δ by rw[show v5[k]?.getD 0=gt v k from vk,Zt (by omega)]]
   refine ih _ _ _ hx2 ⟨by rw[aL];exact lu,by rw[aL];exact lv,ll,fun j hj=>?_,fun j hj=>?_,fun j h1 h2 h3=>?_,fun r' hr' h1=>?_⟩
   ·rw[V0 _ _ (by omega)]
    by_cases e:j=k
    ·subst e;rw[if_pos rfl,if_pos ⟨by omega,hb⟩]
    ·rw[if_neg e,h.vs j hj]
     by_cases c:j<k∧gb U j=true
     ·rw[if_pos c,if_pos ⟨by omega,c.2⟩]
     ·rw[if_neg c,if_neg (fun q=>c ⟨by omega,q.2⟩)]
   ·rw[h.ls j hj]
    by_cases c:gb U j=false
    ·have:j≠k:=by rintro rfl;rw[hb] at c;cases c
     by_cases d:j<k
     ·rw[if_pos ⟨d,c⟩,if_pos ⟨by omega,c⟩]
     ·rw[if_neg (fun q=>d q.1),if_neg (fun q=>by omega)]
    ·rw[if_neg (fun q=>c q.2),if_neg (fun q=>c q.2)]
   ·rw[V0 _ _ (by omega)]
    by_cases e:j=k
    ·subst e;rw[← hr,if_pos rfl]
    ·have hne:(gt (row.set 0 (1+(kk:Int))) j).toNat≠r:=fun q=>e (p9 j k h2 (by omega) h3 hb (by rw[q,hr]))
     rw[if_neg hne]
     exact h.us j (by omega) h2 h3
   ·have hne:r'≠r:=fun q=>h1 k (by omega) (by omega) hb (by rw[q,hr])
    rw[V0 _ _ (by omega),if_neg hne]
    exact h.un r' hr' fun j h2 h3 h4=>h1 j (by omega) h3 h4
end Go.Sky
namespace Go.Sky
open Go Go.Eng
theorem WU:∀ (N:Nat) (l:List Nat),l.Nodup→(∀ x∈l,x<N)→l.length≤N
 | 0,l,_,h=>by
  cases l with
  | nil=>exact aU _
  | cons x l=>exact absurd (h x (aJ ..)) (cE _)
 | N+1,l,hd,h=>by
  by_cases hm:N∈l
  ·have e:=List.length_erase_of_mem hm
   have ih:=WU N (l.erase N) (hd.erase N) (fun x hx=>by
    have h1:=(hd.mem_erase_iff).1 hx
    have:=h x h1.2
    have:=h1.1
    omega)
   omega
  ·have:=WU N l hd (fun x hx=>by
    have:=h x hx
    have:x≠N:=fun e=>hm (e ▸ hx)
    omega)
   omega
structure Bl (n m zb:Nat) (c:Int→Nat→Int) (qc:Int):Prop where
 n1:1≤n∧n≤32
 m1:m=zb+n∧zb≤32
 mb:0≤qc∧qc≤1099511627776
 cb:∀ (x j:Nat),1≤x→x≤n→1≤j→j≤m→0≤c (x:Int) j∧c (x:Int) j≤36028797018963968
 own:∀ (x:Nat),1≤x→x≤n→c (x:Int) (zb+x)=qc
 far:∀ (x y:Nat),1≤x→x≤n→1≤y→y≤n→x≠y→c (x:Int) (zb+y)=36028797018963968
structure Vj (n m:Nat) (c:Int→Nat→Int) (k:Nat) (u v row way:List Int):Prop where
 lenu:u.length=n+1
 lenv:v.length=m+1
 lenr:row.length=m+1
 lenw:way.length=m+1
 rowb:∀ j,j≤m→0≤gt row j∧gt row j≤(n:Int)
 rowk:∀ j,1≤j→j≤m→gt row j≤(k:Int)
 inj:∀ i j,1≤i→i≤m→1≤j→j≤m→gt row i=gt row j→gt row i≠0→i=j
 sur:∀ r:Nat,1≤r→r≤k→∃ j,1≤j∧j≤m∧gt row j=(r:Int)
 red:∀ r j:Nat,1≤r→r≤n→1≤j→j≤m→0≤K9 c u v (r:Int) j
 tight:∀ j,1≤j→j≤m→gt row j≠0→K9 c u v (gt row j) j=0
 vneg:∀ j,1≤j→j≤m→gt v j≤0∧(gt row j=0→gt v j=0)
 ub:∀ r,r≤n→0≤gt u r∧gt u r≤(k:Int)*1099511627776
 uz:∀ r,k<r→r≤n→gt u r=0
 vb:∀ j,j≤m → -((k:Int)*1099511627776)≤gt v j∧gt v j≤0
 wayb:∀ j,j≤m→0≤gt way j∧gt way j≤(m:Int)
def YZ (row:List Int) (k:Nat):List Int:=row.set 0 (1+(k:Int))
theorem FH {row:List Int} {k m:Nat} (h:row.length=m+1):gt (YZ row k) 0=(k:Int)+1:=by
 unfold YZ;rw[V0 _ _ (by omega),if_pos rfl];omega
theorem L0 {row:List Int} {k m:Nat} (h:row.length=m+1) {j:Nat} (hj:1≤j):gt (YZ row k) j=gt row j:=by
 unfold YZ;rw[V0 _ _ (by omega),if_neg (by omega)]
structure Dij (n m:Nat) (c:Int→Nat→Int) (k:Nat) (row:List Int) (S:List Nat) (a:Nat) (u v way low:List Int) (used:List Bool):Prop where
 lenu:u.length=n+1
 lenv:v.length=m+1
 lenw:way.length=m+1
 lenl:low.length=m+1
 lenb:used.length=m+1
 mem:∀ j,j≤m→(gb used j=true↔j∈S)
 nodup:(a::S).Nodup
 le:∀ j∈a::S,j≤m
 z0:0∈a::S
 pos:∀ j∈S,1≤gt (YZ row k) j
 order:∀ (pre:List Nat) (j:Nat) (post:List Nat),a::S=pre++j::post→j≠0→∃ p∈post,gt way j=(p:Int)∧K9 c u v (gt (YZ row k) p) j=0
 red:∀ r j:Nat,1≤r→r≤n→1≤j→j≤m→0≤K9 c u v (r:Int) j
 tight:∀ j,1≤j→j≤m→gt row j≠0→K9 c u v (gt row j) j=0
 vneg:∀ j,1≤j→j≤m→gt v j≤0∧(gt row j=0→gt v j=0)
 ub:∀ r,r≤n→0≤gt u r∧gt u r≤(k:Int)*1099511627776+gt u (k+1)
 uz:∀ r,k+1<r→r≤n→gt u r=0
 vb:∀ j,j≤m → -((k:Int)*1099511627776+gt u (k+1))≤gt v j∧gt v j≤0
 lowb:∀ j,j≤m→0≤gt low j∧gt low j≤1152921504606846976
 lowU:∀ j,1≤j→j≤m→j ∉ S→(∀ s∈S,gt low j≤K9 c u v (gt (YZ row k) s) j)∧(S ≠ []→∃ p∈S,gt way j=(p:Int)∧gt low j=K9 c u v (gt (YZ row k) p) j)∧(S=[]→gt low j=1152921504606846976)
 wayb:∀ j,j≤m→0≤gt way j∧gt way j≤(m:Int)
section
variable {n m zb:Nat} {qb:List (List Int)} {qc from_:Int} {taken:List Bool} {k:Nat} {row:List Int}
theorem Dij.top (hP:Bl n m zb (cst qb qc from_ taken) qc) (hk:k<n) (kv:gt row (zb+(k+1))=0) {S:List Nat} {a:Nat} {u v way low:List Int} {used:List Bool} (h:Dij n m (cst qb qc from_ taken) k row S a u v way low used):gt u (k+1)≤1099511627776:=by
 have hm:=hP.m1
 have r:=h.red (k+1) (zb+(k+1)) (by omega) (by omega) (by omega) (by omega)
 have v0:=(h.vneg (zb+(k+1)) (by omega) (by omega)).2 kv
 unfold K9 at r
 rw[hP.own (k+1) (by omega) (by omega),v0,aO] at r
 have:=hP.mb
 omega
theorem L1 (hP:Bl n m zb (cst qb qc from_ taken) qc) (hk:k<n) (lenr:row.length=m+1) (hrb:∀ j,j≤m→0≤gt row j∧gt row j≤(n:Int)) (hrk:∀ j,1≤j→j≤m→gt row j≤(k:Int))
  (p9:∀ i j,1≤i→i≤m→1≤j→j≤m→gt row i=gt row j→gt row i≠0→i=j) (kv:gt row (zb+(k+1))=0)
  {S:List Nat} {a:Nat} {u v way low:List Int} {used:List Bool} (h:Dij n m (cst qb qc from_ taken) k row S a u v way low used) (ha:1≤gt (YZ row k) a) :
  ∃ (δ:Int) (nx:Nat) (we vp u6 v6 kt:List Int),Xa qb qc from_ taken k row (a:Int) u v used m 0 1152921504606846976 0 way low=(δ,(nx:Int),we,vp)∧X7 k row δ (used.set a true) 0 u v vp=(u6,v6,kt) ∧
   1≤nx∧nx≤m∧Dij n m (cst qb qc from_ taken) k row (a::S) nx u6 v6 we kt (used.set a true):=by
 have hn:=hP.n1
 have hm:=hP.m1
 have top:=h.top hP hk kv
 have lenb:=h.lenb
 have ham:a≤m:=h.le a (aJ ..)
 obtain⟨x,hx⟩:∃ x,gt (YZ row k) a=x:=⟨_,rfl⟩
 have R0:=FH (k:=k) lenr
 have RS:=fun j (hj:1≤j)=>L0 (k:=k) lenr hj
 have Rb:∀ j,j≤m→0≤gt (YZ row k) j∧gt (YZ row k) j≤(k:Int)+1:=fun j hj=>by
  by_cases e:j=0
  ·subst e;omega
  ·rw[RS j (by omega)]
   have:=hrb j hj
   have:=hrk j (by omega) hj
   omega
 have hxb:1≤x∧x≤(k:Int)+1:=⟨hx ▸ ha,hx ▸ (Rb a ham).2⟩
 have kK:(k:Int)*1099511627776≤31*1099511627776:=by omega
 have hu:∀ r,r≤n→0≤gt u r∧gt u r≤70368744177664:=fun r hr=>by have:=h.ub r hr;omega
 have hv:∀ j,j≤m → -70368744177664≤gt v j∧gt v j≤0:=fun j hj=>by have:=h.vb j hj;omega
 have ex:((x.toNat:Nat):Int)=x:=by omega
 have hcx:∀ j,1≤j→j≤m→0≤cst qb qc from_ taken x j∧cst qb qc from_ taken x j≤36028797018963968:=fun j h1 h2=>by
  have:=hP.cb x.toNat j (by omega) (by omega) h1 h2
  rwa [ex] at this
 have Um:∀ j,j≤m→(gb (used.set a true) j=true↔j∈a::S):=fun j hj=>by
  rw[NA _ _ (by omega)]
  by_cases e:j=a
  ·subst e;simp
  ·rw[if_neg e,h.mem j hj];simp[e]
 have Uf:∀ j,j≤m→(gb (used.set a true) j=false↔j ∉ a::S):=fun j hj=>by
  rw[← Um j hj];cases gb (used.set a true) j <;> simp
 obtain⟨δ,next,we,vp,e4,sc⟩:=An (qb:=qb) (qc:=qc) (from_:=from_) (taken:=taken) (kk:=k) (row:=row) (u:=u) (v:=v) (low:=low) (way:=way) (used:=used) (m:=m) (a:=a) (x:=x) hx (by omega) (by omega) (hu x.toNat (by omega)) hv hcx m 0 1152921504606846976 0 way low (by omega)
  ⟨h.lenw,h.lenl,fun j _ _=>⟨rfl,rfl⟩,fun j h1 h2 _=>by omega,.inl ⟨rfl,rfl⟩⟩
 have hfr:(zb+(k+1)) ∉ a::S:=by
  intro tw
  have:1≤gt (YZ row k) (zb+(k+1)):=by
   rcases bB.1 tw with e|e
   ·rw[e];exact ha
   ·exact h.pos _ e
  rw[RS _ (by omega),kv] at this
  omega
 have small:∀ j,1≤j→j≤m→K9 (cst qb qc from_ taken) u v x j≤36099165763141632:=fun j h1 h2=>by
  have:=hcx j h1 h2
  have:=hv j h2
  have:=hu x.toNat (by omega)
  unfold K9;omega
 have hδ:δ<1152921504606846976:=by
  obtain⟨d1,d2⟩:=sc.done (zb+(k+1)) (by omega) (by omega) ((Uf _ (by omega)).2 hfr)
  have:=small (zb+(k+1)) (by omega) (by omega)
  rcases d2 with ⟨q1,_,_⟩|⟨q1,_,q3⟩ <;> omega
 obtain⟨nx,n1,n2,n3,n4,n5,_⟩:∃ nx:Nat,next=(nx:Int)∧1≤nx∧nx≤m∧gb (used.set a true) nx=false∧gt vp nx=δ∧δ<1152921504606846976:=by
  rcases sc.best with ⟨b1,_⟩|b
  ·omega
  ·exact b
 have o4:∀ j,1≤j→j≤m→0≤K9 (cst qb qc from_ taken) u v x j:=fun j h1 h2=>by
  have:=h.red x.toNat j (by omega) (by omega) h1 h2
  rwa [ex] at this
 have sk:∀ j,j≤m→0≤gt vp j∧gt vp j≤1152921504606846976:=fun j hj=>by
  have lb:=h.lowb j hj
  by_cases c:j=0∨gb (used.set a true) j=true
  ·rw[(sc.same j hj (by rcases c with c|c;exact .inl c;exact .inr (.inr c))).1];exact lb
  ·have c2:gb (used.set a true) j=false:=by cases q:gb (used.set a true) j;rfl;exact absurd (.inr q) c
   obtain⟨_,d2⟩:=sc.done j (by omega) hj c2
   have:=o4 j (by omega) hj
   rcases d2 with ⟨q1,_,q3⟩|⟨q1,_,_⟩ <;> omega
 have δ0:0≤δ:=by have:=sk nx n3;omega
 have Rinj:∀ i j,i≤m→j≤m→i∈a::S→j∈a::S→(gt (YZ row k) i).toNat=(gt (YZ row k) j).toNat→i=j:=by
  intro i j hi hj mi mj e
  have pi:1≤gt (YZ row k) i:=by
   rcases bB.1 mi with q|q
   ·rw[q];exact ha
   ·exact h.pos _ q
  have bi:=Rb i hi
  have bj:=Rb j hj
  have e2:gt (YZ row k) i=gt (YZ row k) j:=by omega
  by_cases i0:i=0 <;> by_cases j0:j=0
  ·rw[i0,j0]
  ·subst i0
   rw[R0,RS j (by omega)] at e2
   have:=hrk j (by omega) hj
   omega
  ·subst j0
   rw[R0,RS i (by omega)] at e2
   have:=hrk i (by omega) hi
   omega
  ·rw[RS i (by omega)] at e2 pi
   rw[RS j (by omega)] at e2
   exact p9 i j (by omega) hi (by omega) hj e2 (by omega)
 obtain⟨u6,v6,kt,e5,up⟩:=update (kk:=k) (row:=row) (u:=u) (v:=v) (low:=vp) (U:=used.set a true) (n:=n) (m:=m) (δ:=δ) (by rw[aL];exact lenb) ⟨δ0,by omega⟩ hu hv sk
  (fun j hj _=>by have:=Rb j hj;exact⟨this.1,by show gt (YZ row k) j≤_;omega⟩)
  (fun i j hi hj mi mj e=>Rinj i j hi hj ((Um i hi).1 mi) ((Um j hj).1 mj) e) (used.set a true) 0 u v vp eE
  ⟨h.lenu,h.lenv,sc.lenl,fun j _=>by rw[if_neg (fun q=>cE _ q.1)],fun j _=>by rw[if_neg (fun q=>cE _ q.1)],fun j q=>by omega,fun r _ _=>rfl⟩
 have vU:∀ j,j≤m→j∈a::S→gt v6 j=gt v j-δ:=fun j hj mj=>by rw[up.vs j hj,if_pos ⟨by omega,(Um j hj).2 mj⟩]
 have vN:∀ j,j≤m→j ∉ a::S→gt v6 j=gt v j:=fun j hj mj=>by rw[up.vs j hj,if_neg (fun q=>mj ((Um j hj).1 q.2))]
 have lN:∀ j,j≤m→j ∉ a::S→gt kt j=gt vp j-δ:=fun j hj mj=>by rw[up.ls j hj,if_pos ⟨by omega,(Uf j hj).2 mj⟩]
 have lU:∀ j,j≤m→j∈a::S→gt kt j=gt vp j:=fun j hj mj=>by rw[up.ls j hj,if_neg (fun q=>(Uf j hj).1 q.2 mj)]
 have uU:∀ s,s≤m→s∈a::S→gt u6 (gt (YZ row k) s).toNat=gt u (gt (YZ row k) s).toNat+δ:=fun s hs ms=>up.us s (by omega) hs ((Um s hs).2 ms)
 have uN:∀ r,r≤n→(∀ s,s≤m→s∈a::S→(gt (YZ row k) s).toNat≠r)→gt u6 r=gt u r:=fun r hr q=>up.un r hr fun j _ hj mj=>q j hj ((Um j hj).1 mj)
 have c7:∀ r,r≤n→(∃ s,s≤m∧s∈a::S∧(gt (YZ row k) s).toNat=r∧gt u6 r=gt u r+δ)∨((∀ s,s≤m→s∈a::S→(gt (YZ row k) s).toNat≠r)∧gt u6 r=gt u r):=fun r hr=>by
  by_cases q:∃ s,s≤m∧s∈a::S∧(gt (YZ row k) s).toNat=r
  ·obtain⟨s,s1,s2,s3⟩:=q
   exact .inl ⟨s,s1,s2,s3,by rw[← s3];exact uU s s1 s2⟩
  ·exact .inr ⟨fun s s1 s2 s3=>q ⟨s,s1,s2,s3⟩,uN r hr fun s s1 s2 s3=>q ⟨s,s1,s2,s3⟩⟩
 have lem:∀ j∈a::S,j≤m:=h.le
 have rU:∀ s,s∈a::S→∀ j,j≤m→j ∉ a::S→K9 (cst qb qc from_ taken) u6 v6 (gt (YZ row k) s) j=K9 (cst qb qc from_ taken) u v (gt (YZ row k) s) j-δ:=fun s ms j hj mj=>by
  unfold K9;rw[uU s (lem s ms) ms,vN j hj mj];omega
 have rUU:∀ s,s∈a::S→∀ j,j≤m→j∈a::S→K9 (cst qb qc from_ taken) u6 v6 (gt (YZ row k) s) j=K9 (cst qb qc from_ taken) u v (gt (YZ row k) s) j:=fun s ms j hj mj=>by
  unfold K9;rw[uU s (lem s ms) ms,vU j hj mj];omega
 have fu:∀ j,1≤j→j≤m→j ∉ a::S→δ≤gt vp j∧∀ s∈a::S,gt vp j≤K9 (cst qb qc from_ taken) u v (gt (YZ row k) s) j:=fun j h1 h2 mj=>by
  obtain⟨d1,d2⟩:=sc.done j h1 h2 ((Uf j h2).2 mj)
  refine⟨d1,fun s ms=>?_⟩
  obtain⟨lu1,_,_⟩:=h.lowU j h1 h2 (fun q=>mj (aG _ q))
  rcases bB.1 ms with e|e
  ·rw[e,hx]
   rcases d2 with ⟨q1,_,_⟩|⟨q1,_,q3⟩ <;> omega
  ·have:=lu1 s e
   rcases d2 with ⟨q1,_,q3⟩|⟨q1,_,_⟩ <;> omega
 have tn:∀ j,1≤j→j≤m→j ∉ a::S→∃ p∈a::S,gt we j=(p:Int)∧gt vp j=K9 (cst qb qc from_ taken) u v (gt (YZ row k) p) j:=fun j h1 h2 mj=>by
  obtain⟨d1,d2⟩:=sc.done j h1 h2 ((Uf j h2).2 mj)
  obtain⟨_,lu2,lu3⟩:=h.lowU j h1 h2 (fun q=>mj (aG _ q))
  rcases d2 with ⟨q1,q2,_⟩|⟨q1,q2,q3⟩
  ·exact⟨a,aJ ..,q2,by rw[q1,hx]⟩
  ·by_cases hS:S=[]
   ·have:=lu3 hS
    have:=small j h1 h2
    omega
   ·obtain⟨p,p1,p2,p3⟩:=lu2 hS
    exact⟨p,aG _ p1,by rw[q2,p2],by rw[q1,p3]⟩
 have nxm:nx ∉ a::S:=(Uf nx n3).1 n4
 have l0:∀ j∈a::S,1≤gt (YZ row k) j:=fun j hj=>by
  rcases bB.1 hj with e|e
  ·rw[e];exact ha
  ·exact h.pos j e
 have uk:gt u6 (k+1)=gt u (k+1)+δ:=by
  have:=uU 0 (aP _) h.z0
  rwa [R0,show ((k:Int)+1).toNat=k+1 by omega] at this
 refine⟨δ,nx,we,vp,u6,v6,kt,by rw[e4,n1],e5,n2,n3,?_⟩
 refine⟨up.lenu,up.lenv,sc.lenw,up.lenl,by rw[aL];exact lenb,Um,?_,?_,aG _ h.z0,l0,?_,?_,?_,?_,?_,?_,?_,?_,?_,?_⟩
 ·exact gA.2 ⟨nxm,h.nodup⟩
 ·intro j hj
  rcases bB.1 hj with e|e
  ·rw[e];exact n3
  ·exact lem j e
 ·
  intro pre j post hp hj0
  rcases pre with _|⟨b,pre⟩
  ·rw[bK] at hp
   injection hp with hp1 hp2
   subst hp1
   obtain⟨p,p1,p2,p3⟩:=tn nx n2 n3 nxm
   refine⟨p,by rw[← hp2];exact p1,p2,?_⟩
   rw[rU p p1 nx n3 nxm,← p3,n5];omega
  ·rw[dH] at hp
   injection hp with hp1 hp2
   obtain⟨p,p1,p2,p3⟩:=h.order pre j post hp2 hj0
   have mj:j∈a::S:=by rw[hp2];simp
   have mp:p∈a::S:=by rw[hp2];simp[p1]
   have jm:=lem j mj
   refine⟨p,p1,?_,?_⟩
   ·rw[(sc.same j jm (.inr (.inr ((Um j jm).2 mj)))).2];exact p2
   ·rw[rUU p mp j jm mj];exact p3
 ·
  intro r j r1 r2 j1 j2
  have base:=h.red r j r1 r2 j1 j2
  rcases c7 r r2 with ⟨s,s1,s2,s3,s4⟩|⟨_,s4⟩
  ·by_cases mj:j∈a::S
   ·unfold K9 at base ⊢
    rw[aO] at base ⊢
    rw[s4,vU j j2 mj];omega
   ·have:=(fu j j1 j2 mj).1
    have l2:=(fu j j1 j2 mj).2 s s2
    have e:gt (YZ row k) s=(r:Int):=by have:=Rb s s1;omega
    rw[e] at l2
    unfold K9 at base l2 ⊢
    rw[aO] at base l2 ⊢
    rw[s4,vN j j2 mj];omega
  ·unfold K9 at base ⊢
   rw[aO] at base ⊢
   by_cases mj:j∈a::S
   ·rw[s4,vU j j2 mj];omega
   ·rw[s4,vN j j2 mj];omega
 ·
  intro j j1 j2 hj
  have base:=h.tight j j1 j2 hj
  by_cases mj:j∈a::S
  ·have:=rUU j mj j j2 mj
   rw[RS j j1] at this
   rw[this];exact base
  ·have hb:=hrb j j2
   have e:gt u6 (gt row j).toNat=gt u (gt row j).toNat:=by
    refine uN _ (by omega) fun s s1 s2 s3=>?_
    have ps:=l0 s s2
    by_cases s0:s=0
    ·subst s0
     rw[R0] at s3
     have:=hrk j j1 j2
     omega
    ·rw[RS s (by omega)] at s3 ps
     have:=p9 s j (by omega) s1 j1 j2 (by omega) (by omega)
     rw[this] at s2
     exact mj s2
   unfold K9 at base ⊢
   rw[e,vN j j2 mj];exact base
 ·intro j j1 j2
  obtain⟨b1,b2⟩:=h.vneg j j1 j2
  by_cases mj:j∈a::S
  ·rw[vU j j2 mj]
   refine⟨by omega,fun q=>?_⟩
   have:=l0 j mj
   rw[RS j j1,q] at this
   omega
  ·rw[vN j j2 mj];exact⟨b1,b2⟩
 ·intro r hr
  have b:=h.ub r hr
  rw[uk]
  rcases c7 r hr with ⟨s,_,_,_,s4⟩|⟨_,s4⟩ <;> rw[s4] <;> omega
 ·intro r r1 r2
  rw[← h.uz r r1 r2]
  refine uN r r2 fun s s1 s2 s3=>?_
  have:=Rb s s1
  omega
 ·intro j hj
  have b:=h.vb j hj
  rw[uk]
  by_cases mj:j∈a::S
  ·rw[vU j hj mj];omega
  ·rw[vN j hj mj];omega
 ·intro j hj
  have b:=sk j hj
  by_cases mj:j∈a::S
  ·rw[lU j hj mj];exact b
  ·have j0:1≤j:=by
    rcases bX j with e|e
    ·rw[e] at mj;exact absurd h.z0 mj
    ·exact e
   have:=(fu j j0 hj mj).1
   rw[lN j hj mj];omega
 ·intro j j1 j2 mj
  refine⟨fun s ms=>?_,fun _=>?_,fun q=>by cases q⟩
  ·have:=(fu j j1 j2 mj).2 s ms
   rw[lN j j2 mj,rU s ms j j2 mj];omega
  ·obtain⟨p,p1,p2,p3⟩:=tn j j1 j2 mj
   exact⟨p,p1,p2,by rw[lN j j2 mj,rU p p1 j j2 mj,p3]⟩
 ·intro j hj
  have b:=h.wayb j hj
  by_cases c:j=0∨gb (used.set a true) j=true
  ·rw[(sc.same j hj (by rcases c with c|c;exact .inl c;exact .inr (.inr c))).2];exact b
  ·have c2:gb (used.set a true) j=false:=by cases q:gb (used.set a true) j;rfl;exact absurd (.inr q) c
   obtain⟨_,d2⟩:=sc.done j (by omega) hj c2
   rcases d2 with ⟨_,q2,_⟩|⟨_,q2,_⟩
   ·rw[q2];omega
   ·rw[q2];exact b
theorem L2 (hP:Bl n m zb (cst qb qc from_ taken) qc) (hk:k<n) (lenr:row.length=m+1) (hrb:∀ j,j≤m→0≤gt row j∧gt row j≤(n:Int)) (hrk:∀ j,1≤j→j≤m→gt row j≤(k:Int))
  (p9:∀ i j,1≤i→i≤m→1≤j→j≤m→gt row i=gt row j→gt row i≠0→i=j) (kv:gt row (zb+(k+1))=0) :
  ∀ (f:Nat) (S:List Nat) (a:Nat) (u v way low:List Int) (used:List Bool),Dij n m (cst qb qc from_ taken) k row S a u v way low used→1≤gt (YZ row k) a→m+1≤f+S.length →
   ∃ (S':List Nat) (e:Nat) (u' v' ko yv:List Int) (yl:List Bool),QB qb qc from_ taken (m:Int) k row f (a:Int) u v way low used=some ((e:Int),u',v',ko,yv,yl)∧Dij n m (cst qb qc from_ taken) k row S' e u' v' ko yv yl∧gt (YZ row k) e=0∧1≤e
 | 0,S,a,u,v,way,low,used,h,_,hf=>by
  have:=WU (m+1) (a::S) h.nodup (fun x hx=>by have:=h.le x hx;omega)
  rw[aI] at this
  omega
 | f+1,S,a,u,v,way,low,used,h,ha,hf=>by
  obtain⟨δ,nx,we,vp,u6,v6,kt,e4,e5,n1,n2,h'⟩:=L1 hP hk lenr hrb hrk p9 kv h ha
  unfold QB
  rw[aO,e4]
  unfold YB
  simp only[aO,e5]
  have er:((row.set 0 (1+(k:Int)))[nx]?.getD 0)=gt (YZ row k) nx:=rfl
  rw[er]
  by_cases h0:gt (YZ row k) nx=0
  ·rw[show (gt (YZ row k) nx==0)=true by simpa using h0,cond_true]
   exact⟨a::S,nx,u6,v6,we,kt,_,rfl,h',h0,n1⟩
  ·rw[show (gt (YZ row k) nx==0)=false by simpa using h0,cond_false]
   have hb:0≤gt (YZ row k) nx:=by rw[L0 lenr n1];exact(hrb nx n2).1
   exact L2 hP hk lenr hrb hrk p9 kv f (a::S) nx u6 v6 we kt _ h' (by omega) (by rw[aI];omega)
end
end Go.Sky
namespace Go.Sky
open Go Go.Eng
structure Aug (m:Nat) (c:Int→Nat→Int) (k:Nat) (row u v:List Int) (a:Nat) (pre:List Nat) (ρ:List Int):Prop where
 len:ρ.length=m+1
 same:∀ i,i≤m→i ∉ pre→gt ρ i=gt (YZ row k) i
 bnd:∀ i,i≤m→0≤gt ρ i∧gt ρ i≤(k:Int)+1
 tight:∀ i,1≤i→i≤m→i≠a→gt ρ i≠0→K9 c u v (gt ρ i) i=0
 inj:∀ i j,i≤m→j≤m→i≠a→j≠a→gt ρ i=gt ρ j→gt ρ i≠0→i=j
 sur:∀ r:Nat,1≤r→r≤k+1→∃ i,i≤m∧i≠a∧gt ρ i=(r:Int)
 zero:∀ i,i≤m→i≠a→gt ρ i=0→gt (YZ row k) i=0
theorem T0 {n m k:Nat} {c:Int→Nat→Int} {row:List Int} {S:List Nat} {e:Nat} {u v way low:List Int} {used:List Bool} (h:Dij n m c k row S e u v way low used) :
  ∀ (f:Nat) (a:Nat) (pre post:List Nat) (ρ:List Int),e::S=pre++a::post→Aug m c k row u v a pre ρ→post.length<f →
   ∃ (o5:List Nat) (ρ':List Int),XQ way f (a:Int) ρ=some ρ'∧Aug m c k row u v 0 o5 ρ'
 | 0,a,pre,post,ρ,_,_,hf=>by omega
 | f+1,a,pre,post,ρ,hp,g,hf=>by
  have nd:=h.nodup
  rw[hp] at nd
  have am:a≤m:=h.le a (by rw[hp];simp)
  have o6:=g.len
  unfold XQ
  by_cases a0:a=0
  ·subst a0
   exact⟨pre,ρ,rfl,g⟩
  ·rw[show ((a:Int) != 0)=true by simp;omega,cond_true]
   obtain⟨p,p1,p2,p3⟩:=h.order pre a post hp a0
   obtain⟨ba,bb,hq⟩:=List.append_of_mem p1
   have pS:p∈S:=by
    rcases pre with _|⟨b,pre⟩
    ·rw[bK] at hp;injection hp with _ hp2;rw[hp2];exact p1
    ·rw[dH] at hp;injection hp with _ hp2;rw[hp2];simp[p1]
   have pm:p≤m:=h.le p (aG _ pS)
   have ppos:=h.pos p pS
   obtain⟨_,nd2,nd3⟩:=List.nodup_append.1 nd
   have pa:p≠a:=by
    rintro rfl
    exact(gA.1 nd2).1 p1
   have bf:p ∉ pre:=fun q=>nd3 p q p (aG _ p1) rfl
   have ew:(way[((a:Int)).toNat]?.getD 0)=(p:Int):=by rw[aO];exact p2
   have er:(ρ[((p:Int)).toNat]?.getD 0)=gt (YZ row k) p:=by rw[aO];exact g.same p pm bf
   rw[ew,er,aO]
   have st:∀ i,gt (ρ.set a (gt (YZ row k) p)) i=if i=a then gt (YZ row k) p else gt ρ i:=fun i=>V0 _ _ (by omega)
   have sa:gt (ρ.set a (gt (YZ row k) p)) a=gt (YZ row k) p:=by rw[st,if_pos rfl]
   have sn:∀ i,i≠a→gt (ρ.set a (gt (YZ row k) p)) i=gt ρ i:=fun i hi=>by rw[st,if_neg hi]
   have gp:gt ρ p=gt (YZ row k) p:=g.same p pm bf
   refine T0 h f p (pre++a::ba) bb _ (by rw[hp,hq];simp) ⟨by rw[aL];exact o6,fun i hi hn=>?_,fun i hi=>?_,fun i h1 h2 h3 h4=>?_,fun i j hi hj h1 h2 h3 h4=>?_,fun r h1 h2=>?_,fun i hi h1 h2=>?_⟩ ?_
   ·have:i≠a:=by rintro rfl;exact hn (by simp)
    rw[sn i this]
    exact g.same i hi fun q=>hn (by simp[q])
   ·by_cases c:i=a
    ·rw[c,sa,← gp];exact g.bnd p pm
    ·rw[sn i c];exact g.bnd i hi
   ·by_cases c:i=a
    ·rw[c,sa];exact p3
    ·rw[sn i c] at h4 ⊢;exact g.tight i h1 h2 c h4
   ·by_cases ci:i=a <;> by_cases cj:j=a
    ·rw[ci,cj]
    ·rw[ci,sa,sn j cj,← gp] at h3
     exact absurd (g.inj j p hj pm cj pa h3.symm (by rw[← h3,gp];omega)) h2
    ·rw[cj,sa,sn i ci,← gp] at h3
     exact absurd (g.inj i p hi pm ci pa h3 (by rw[h3,gp];omega)) h1
    ·rw[sn i ci,sn j cj] at h3
     rw[sn i ci] at h4
     exact g.inj i j hi hj ci cj h3 h4
   ·obtain⟨i,i1,i2,i3⟩:=g.sur r h1 h2
    by_cases c:i=p
    ·exact⟨a,am,fun q=>pa q.symm,by rw[sa,← gp,← c];exact i3⟩
    ·exact⟨i,i1,c,by rw[sn i i2];exact i3⟩
   ·by_cases c:i=a
    ·rw[c,sa] at h2;omega
    ·rw[sn i c] at h2;exact g.zero i hi c h2
   ·rw[hq,aW,aI] at hf
    omega
theorem fill:∀ (f k:Nat) (low:List Int),(Xs f k low).length=low.length∧(k+f≤low.length→∀ j,gt (Xs f k low) j=if k≤j∧j<k+f then 1152921504606846976 else gt low j)
 | 0,k,low=>⟨rfl,fun _ j=>by rw[if_neg (by omega)];rfl⟩
 | f+1,k,low=>by
  obtain⟨l1,l2⟩:=fill f (k+1) (low.set k 1152921504606846976)
  rw[aL] at l1 l2
  unfold Xs
  refine⟨l1,fun hl j=>?_⟩
  rw[l2 (by omega) j,V0 _ _ (by omega)]
  by_cases c:k≤j∧j<k+(f+1)
  ·rw[if_pos c]
   by_cases d:k+1≤j∧j<k+1+f
   ·rw[if_pos d]
   ·rw[if_neg d,if_pos (by omega)]
  ·rw[if_neg c,if_neg (by omega),if_neg (by omega)]
section
variable {n m zb:Nat} {qb:List (List Int)} {qc from_:Int} {taken:List Bool} {k:Nat} {u v row way:List Int}
theorem Vj.free (hP:Bl n m zb (cst qb qc from_ taken) qc) (hk:k<n) (h:Vj n m (cst qb qc from_ taken) k u v row way):gt row (zb+(k+1))=0:=by
 have hn:=hP.n1
 have hm:=hP.m1
 by_cases c:gt row (zb+(k+1))=0
 ·exact c
 ·exfalso
  have b:=h.rowb (zb+(k+1)) (by omega)
  have bk:=h.rowk (zb+(k+1)) (by omega) (by omega)
  obtain⟨r,hr⟩:∃ r:Nat,gt row (zb+(k+1))=(r:Int):=⟨(gt row (zb+(k+1))).toNat,by omega⟩
  rw[hr] at b bk c
  have t:=h.tight (zb+(k+1)) (by omega) (by omega) (by rw[hr];exact c)
  have f:=hP.far r (k+1) (by omega) (by omega) (by omega) (by omega) (by omega)
  have ub:=h.ub r (by omega)
  have vb:=(h.vneg (zb+(k+1)) (by omega) (by omega)).1
  rw[hr] at t
  unfold K9 at t
  rw[f,aO] at t
  omega
theorem Vj.start (hP:Bl n m zb (cst qb qc from_ taken) qc) (hk:k<n) (h:Vj n m (cst qb qc from_ taken) k u v row way) :
  Dij n m (cst qb qc from_ taken) k row [] 0 u v way (Xs (m+1) 0 (List.replicate (m+1) 0)) (List.replicate (m+1) false):=by
 have hn:=hP.n1
 have hm:=hP.m1
 obtain⟨l1,l2⟩:=fill (m+1) 0 (List.replicate (m+1) 0)
 rw[bA] at l1 l2
 have l3:=l2 (by omega)
 have u0:=h.uz (k+1) (by omega) (by omega)
 have lo:∀ j,j≤m→gt (Xs (m+1) 0 (List.replicate (m+1) 0)) j=1152921504606846976:=fun j hj=>by rw[l3 j,if_pos (by omega)]
 refine⟨h.lenu,h.lenv,h.lenw,l1,bA ..,fun j _=>by rw[IB];simp,by simp,fun j hj=>by simp at hj;omega,by simp,fun j hj=>by simp at hj,fun pre j post hp hj=>?_,h.red,h.tight,h.vneg,fun r hr=>by rw[u0];have:=h.ub r hr;omega,fun r h1 h2=>h.uz r (by omega) h2,fun j hj=>by rw[u0];have:=h.vb j hj;omega,fun j hj=>by rw[lo j hj];omega,fun j h1 h2 _=>⟨fun s hs=>by simp at hs,fun q=>absurd rfl q,fun _=>lo j h2⟩,h.wayb⟩
 have:j ∈ [0]:=by rw[hp];simp
 simp at this;exact absurd this hj
theorem Dij.done (hP:Bl n m zb (cst qb qc from_ taken) qc) (hk:k<n) (h:Vj n m (cst qb qc from_ taken) k u v row way)
  {S:List Nat} {e:Nat} {u' v' ko yv:List Int} {yl:List Bool} (d:Dij n m (cst qb qc from_ taken) k row S e u' v' ko yv yl) (he:gt (YZ row k) e=0) (he1:1≤e) :
  ∃ ρ,XQ ko 100 (e:Int) (row.set 0 (1+(k:Int)))=some ρ∧Vj n m (cst qb qc from_ taken) (k+1) u' v' ρ ko:=by
 have hn:=hP.n1
 have hm:=hP.m1
 have fr:=h.free hP hk
 have top:=d.top hP hk fr
 have lenr:=h.lenr
 have R0:=FH (k:=k) lenr
 have RS:=fun j (hj:1≤j)=>L0 (k:=k) lenr hj
 have Rb:∀ j,j≤m→0≤gt (YZ row k) j∧gt (YZ row k) j≤(k:Int)+1:=fun j hj=>by
  by_cases e:j=0
  ·subst e;omega
  ·rw[RS j (by omega)]
   have:=h.rowb j hj
   have:=h.rowk j (by omega) hj
   omega
 have sl:=WU (m+1) (e::S) d.nodup (fun x hx=>by have:=d.le x hx;omega)
 rw[aI] at sl
 have g0:Aug m (cst qb qc from_ taken) k row u' v' e [] (YZ row k):=by
  refine⟨by unfold YZ;rw[aL];exact lenr,fun i _ _=>rfl,Rb,fun i h1 h2 _ h4=>?_,fun i j hi hj _ _ h3 h4=>?_,fun r h1 h2=>?_,fun i _ _ q=>q⟩
  ·rw[RS i h1] at h4 ⊢
   exact d.tight i h1 h2 h4
  ·by_cases i0:i=0 <;> by_cases j0:j=0
   ·rw[i0,j0]
   ·subst i0
    rw[R0,RS j (by omega)] at h3
    have:=h.rowk j (by omega) hj
    omega
   ·subst j0
    rw[R0,RS i (by omega)] at h3
    have:=h.rowk i (by omega) hi
    omega
   ·rw[RS i (by omega)] at h3 h4
    rw[RS j (by omega)] at h3
    exact h.inj i j (by omega) hi (by omega) hj h3 h4
  ·by_cases c:r=k+1
   ·exact⟨0,aP _,by omega,by rw[R0];omega⟩
   ·obtain⟨j,j1,j2,j3⟩:=h.sur r h1 (by omega)
    refine⟨j,j2,fun q=>?_,by rw[RS j j1];exact j3⟩
    rw[← q,RS j j1] at he
    omega
 obtain⟨pre,ρ,e1,g⟩:=T0 d 100 e [] S (YZ row k) rfl g0 (by omega)
 refine⟨ρ,e1,d.lenu,d.lenv,g.len,d.lenw,fun j hj=>by have:=g.bnd j hj;omega,fun j _ hj=>by have:=g.bnd j hj;omega,fun i j h1 h2 h3 h4 h5 h6=>g.inj i j h2 h4 (by omega) (by omega) h5 h6,fun r h1 h2=>?_,d.red,fun j h1 h2 h3=>g.tight j h1 h2 (by omega) h3,fun j h1 h2=>⟨(d.vneg j h1 h2).1,fun q=>(d.vneg j h1 h2).2 ?_⟩,fun r hr=>by have:=d.ub r hr;omega,fun r h1 h2=>d.uz r h1 h2,fun j hj=>by have:=d.vb j hj;omega,d.wayb⟩
 ·obtain⟨i,i1,i2,i3⟩:=g.sur r h1 h2
  exact⟨i,by omega,i1,i3⟩
 ·rw[← RS j h1];exact g.zero j h2 (by omega) q
theorem phase (hP:Bl n m zb (cst qb qc from_ taken) qc) (hk:k<n) (h:Vj n m (cst qb qc from_ taken) k u v row way) :
  ∃ (e:Nat) (u' v' ko yv:List Int) (yl:List Bool) (ρ:List Int),QB qb qc from_ taken (m:Int) k row 100 0 u v way (Xs (m+1) 0 (List.replicate (m+1) 0)) (List.replicate (m+1) false)=some ((e:Int),u',v',ko,yv,yl) ∧
   XQ ko 100 (e:Int) (row.set 0 (1+(k:Int)))=some ρ∧Vj n m (cst qb qc from_ taken) (k+1) u' v' ρ ko:=by
 have hn:=hP.n1
 have hm:=hP.m1
 obtain⟨S',e,u',v',ko,yv,yl,e1,d,e2,e3⟩:=L2 hP hk h.lenr h.rowb h.rowk h.inj (h.free hP hk) 100 [] 0 u v way _ _ (h.start hP hk) (by rw[FH h.lenr];omega) (by simp;omega)
 obtain⟨ρ,e4,h'⟩:=d.done hP hk h e2 e3
 exact⟨e,u',v',ko,yv,yl,ρ,e1,e4,h'⟩
end
section
variable {n m zb:Nat} {qb:List (List Int)} {qc from_:Int} {taken:List Bool}
theorem rounds (hP:Bl n m zb (cst qb qc from_ taken) qc):∀ (f k:Nat) (u v row way:List Int),f+k=n→Vj n m (cst qb qc from_ taken) k u v row way →
  ∃ u' v' uv ko:List Int,J6 qb qc from_ taken (m:Int) f k u v row way=(u',v',uv,ko)∧Vj n m (cst qb qc from_ taken) n u' v' uv ko
 | 0,k,u,v,row,way,hf,h=>⟨u,v,row,way,rfl,by rw[show n=k by omega];rw[show n=k by omega] at h;exact h⟩
 | f+1,k,u,v,row,way,hf,h=>by
  have hn:=hP.n1
  have hm:=hP.m1
  obtain⟨e,u',v',ko,yv,yl,ρ,e1,e2,h'⟩:=phase hP (by omega) h
  have em:(w64 ((m:Int)+1)).toNat=m+1:=by rw[Zt (by omega)];omega
  unfold J6 YB
  simp only[em,e1,cV,e2]
  exact rounds hP f (k+1) u' v' ρ ko (by omega) h'
theorem Iy (hP:Bl n m zb (cst qb qc from_ taken) qc):Vj n m (cst qb qc from_ taken) 0 (List.replicate (n+1) 0) (List.replicate (m+1) 0) (List.replicate (m+1) 0) (List.replicate (m+1) 0):=by
 have hn:=hP.n1
 have hm:=hP.m1
 refine⟨bA ..,bA ..,bA ..,bA ..,fun j _=>by rw[VZ];omega,fun j _ _=>by rw[VZ];omega,fun i j _ _ _ _ _ q=>absurd (VZ _ _) q,fun r h1 h2=>by omega,fun r j h1 h2 h3 h4=>?_,fun j _ _ q=>absurd (VZ _ _) q,fun j _ _=>by rw[VZ];exact⟨by omega,fun _=>rfl⟩,fun r _=>by rw[VZ];omega,fun r _ _=>VZ _ _,fun j _=>by rw[VZ];omega,fun j _=>by rw[VZ];omega⟩
 unfold K9
 rw[VZ,VZ]
 have:=hP.cb r j h1 h2 h3 h4
 omega
end
end Go.Sky
namespace Go.Sky
open Go Go.Eng
def sm:Nat→(Nat→Int)→Int
 | 0,_=>0
 | n+1,f=>f 0+sm n (fun i=>f (i+1))
theorem JY:∀ {n:Nat} {f g:Nat→Int},(∀ i,i<n→f i=g i)→sm n f=sm n g
 | 0,_,_,_=>rfl
 | n+1,f,g,h=>by unfold sm;rw[h 0 (by omega),JY (fun i hi=>h (i+1) (by omega))]
theorem RN:∀ (n:Nat) (f g:Nat→Int),sm n (fun i=>f i+g i)=sm n f+sm n g
 | 0,_,_=>rfl
 | n+1,f,g=>by
  show f 0+g 0+sm n (fun i=>f (i+1)+g (i+1))=(f 0+sm n (fun i=>f (i+1)))+(g 0+sm n (fun i=>g (i+1)))
  rw[RN n (fun i=>f (i+1)) (fun i=>g (i+1))];omega
theorem T8:∀ {n:Nat} {f g:Nat→Int},(∀ i,i<n→f i≤g i)→sm n f≤sm n g
 | 0,_,_,_=>cO _
 | n+1,f,g,h=>by
  have a:=h 0 (by omega)
  have b:=T8 (n:=n) (f:=fun i=>f (i+1)) (g:=fun i=>g (i+1)) (fun i hi=>h (i+1) (by omega))
  unfold sm;omega
theorem Bv:∀ (n:Nat),sm n (fun _=>0)=0
 | 0=>rfl
 | n+1=>by unfold sm;rw[Bv n];rfl
theorem L6:∀ (n:Nat) (c:Int),sm n (fun _=>c)=(n:Int)*c
 | 0,c=>by simp[sm]
 | n+1,c=>by unfold sm;rw[L6 n c,hQ,iB];simp[Int.add_comm]
theorem PR:∀ {n:Nat} {f:Nat→Int},(∀ i,i<n→0≤f i)→∀ i,i<n→f i≤sm n f
 | 0,_,_,i,hi=>absurd hi (cE _)
 | n+1,f,h,i,hi=>by
  have z:0≤sm n (fun i=>f (i+1)):=by rw[← Bv n];exact T8 fun i hi=>h (i+1) (by omega)
  have z0:=h 0 (by omega)
  unfold sm
  cases i with
  | zero=>omega
  | succ i =>
   have:=PR (n:=n) (f:=fun i=>f (i+1)) (fun i hi=>h (i+1) (by omega)) i (by omega)
   omega
theorem RO:∀ {n:Nat} {f:Nat→Int} {a:Nat},a<n→sm n f=sm n (fun i=>if i=a then 0 else f i)+f a
 | 0,_,_,h=>absurd h (cE _)
 | n+1,f,a,h=>by
  show f 0+sm n (fun i=>f (i+1))=((if 0=a then 0 else f 0)+sm n (fun i=>if i+1=a then 0 else f (i+1)))+f a
  cases a with
  | zero =>
   rw[if_pos rfl,JY (n:=n) (f:=fun i=>if i+1=0 then 0 else f (i+1)) (g:=fun i=>f (i+1)) (fun i _=>if_neg (by omega))]
   omega
  | succ a =>
   have:=RO (n:=n) (f:=fun i=>f (i+1)) (a:=a) (by omega)
   rw[this,if_neg (by omega),JY (n:=n) (f:=fun i=>if i+1=a+1 then 0 else f (i+1)) (g:=fun i=>if i=a then 0 else f (i+1)) (fun i _=>by
    by_cases c:i=a
    ·rw[if_pos c,if_pos (by omega)]
    ·rw[if_neg c,if_neg (by omega)])]
   omega
structure Fp (n m:Nat) (σ:Nat→Nat):Prop where
 lt:∀ r,r<n→σ r<m
 inj:∀ r s,r<n→s<n→σ r=σ s→r=s
theorem Fp.tail {n m:Nat} {σ:Nat→Nat} (h:Fp (n+1) m σ):Fp n m (fun r=>σ (r+1)) :=
 ⟨fun r hr=>h.lt (r+1) (by omega),fun r s hr hs e=>by have:=h.inj (r+1) (s+1) (by omega) (by omega) e;omega⟩
theorem NB:∀ {n m:Nat} {σ:Nat→Nat} {g:Nat→Int},Fp n m σ→(∀ j,j<m→(∀ r,r<n→σ r≠j)→g j=0)→sm m g=sm n (fun r=>g (σ r))
 | 0,m,σ,g,_,h=>by
  rw[JY (n:=m) (f:=g) (g:=fun _=>0) (fun j hj=>h j hj fun r hr=>absurd hr (cE _)),Bv];rfl
 | n+1,m,σ,g,hi,h=>by
  have ne:∀ r,r<n→σ (r+1)≠σ 0:=fun r hr e=>by have:=hi.inj (r+1) 0 (by omega) (by omega) e;omega
  rw[RO (n:=m) (f:=g) (a:=σ 0) (hi.lt 0 (by omega)),NB (n:=n) (m:=m) (g:=fun i=>if i=σ 0 then 0 else g i) hi.tail (fun j hj hn=>?_)]
  ·show _=g (σ 0)+sm n (fun r=>g (σ (r+1)))
   rw[JY (n:=n) (f:=fun r=>if σ (r+1)=σ 0 then 0 else g (σ (r+1))) (g:=fun r=>g (σ (r+1))) (fun r hr=>if_neg (ne r hr))]
   omega
  ·show (if j=σ 0 then 0 else g j)=0
   by_cases c:j=σ 0
   ·exact if_pos c
   ·rw[if_neg c]
    refine h j hj fun r hr e=>?_
    cases r with
    | zero=>exact c e.symm
    | succ r=>exact hn r (by omega) e
theorem BW:∀ {n m:Nat} {σ:Nat→Nat} {g:Nat→Int},Fp n m σ→(∀ j,j<m→g j≤0)→sm m g≤sm n (fun r=>g (σ r))
 | 0,m,σ,g,_,h=>by
  have:=T8 (n:=m) (f:=g) (g:=fun _=>0) h
  rw[Bv] at this;exact this
 | n+1,m,σ,g,hi,h=>by
  have ne:∀ r,r<n→σ (r+1)≠σ 0:=fun r hr e=>by have:=hi.inj (r+1) 0 (by omega) (by omega) e;omega
  have ih:=BW (n:=n) (m:=m) (g:=fun i=>if i=σ 0 then 0 else g i) hi.tail (fun j hj=>by
   show (if j=σ 0 then 0 else g j)≤0
   by_cases c:j=σ 0
   ·rw[if_pos c];exact cO _
   ·rw[if_neg c];exact h j hj)
  rw[RO (n:=m) (f:=g) (a:=σ 0) (hi.lt 0 (by omega))]
  show _≤g (σ 0)+sm n (fun r=>g (σ (r+1)))
  rw[JY (n:=n) (f:=fun r=>if σ (r+1)=σ 0 then 0 else g (σ (r+1))) (g:=fun r=>g (σ (r+1))) (fun r hr=>if_neg (ne r hr))] at ih
  omega
def BX (c:Int→Nat→Int) (row:List Int) (j:Nat):Int:=if gt row (j+1)>0 then c (gt row (j+1)) (j+1) else 0
section
variable {n m:Nat} {c:Int→Nat→Int} {u v row way:List Int}
theorem Vj.best (h:Vj n m c n u v row way):∃ σ,Fp n m σ∧sm m (BX c row)=sm n (fun r=>c ((r+1:Nat):Int) (σ r+1))∧∀ τ,Fp n m τ→sm n (fun r=>c ((r+1:Nat):Int) (σ r+1))≤sm n (fun r=>c ((r+1:Nat):Int) (τ r+1)):=by
 have ex:∀ r:Nat,∃ j:Nat,r<n→j<m∧gt row (j+1)=((r+1:Nat):Int):=fun r=>by
  by_cases hr:r<n
  ·obtain⟨j,j1,j2,j3⟩:=h.sur (r+1) (by omega) (by omega)
   exact⟨j-1,fun _=>⟨by omega,by rw[show j-1+1=j by omega];exact j3⟩⟩
  ·exact⟨0,fun q=>absurd q hr⟩
 obtain⟨σ,hσ⟩:=Classical.axiomOfChoice ex
 have l5:Fp n m σ:=⟨fun r hr=>(hσ r hr).1,fun r s hr hs e=>by
  have a:=(hσ r hr).2
  have b:=(hσ s hs).2
  rw[e,b] at a
  omega⟩
 have off:∀ j,j<m→(∀ r,r<n→σ r≠j)→gt row (j+1)=0:=fun j hj hn=>by
  by_cases z:gt row (j+1)=0
  ·exact z
  ·exfalso
   have b:=h.rowb (j+1) (by omega)
   refine hn ((gt row (j+1)).toNat-1) (by omega) ?_
   have q:=hσ ((gt row (j+1)).toNat-1) (by omega)
   have:=h.inj (σ ((gt row (j+1)).toNat-1)+1) (j+1) (by omega) (by omega) (by omega) (by omega) (by omega) (by omega)
   omega
 refine⟨σ,l5,?_,fun τ hτ=>?_⟩
 ·rw[NB l5 fun j hj hn=>by unfold BX;rw[off j hj hn];rfl]
  refine JY fun r hr=>?_
  unfold BX
  rw[(hσ r hr).2,if_pos (by omega)]
 ·have e1:sm n (fun r=>c ((r+1:Nat):Int) (σ r+1))=sm n (fun r=>gt u (r+1))+sm n (fun r=>gt v (σ r+1)):=by
   rw[← RN]
   refine JY fun r hr=>?_
   obtain⟨q1,q2⟩:=hσ r hr
   have:=h.tight (σ r+1) (by omega) (by omega) (by rw[q2];omega)
   rw[q2] at this
   unfold K9 at this
   rw[aO] at this
   omega
  have e2:sm n (fun r=>gt u (r+1))+sm n (fun r=>gt v (τ r+1))≤sm n (fun r=>c ((r+1:Nat):Int) (τ r+1)):=by
   rw[← RN]
   refine T8 fun r hr=>?_
   have:=h.red (r+1) (τ r+1) (by omega) (by omega) (by omega) (by have:=hτ.lt r hr;omega)
   unfold K9 at this
   rw[aO] at this
   omega
  have e3:sm m (fun j=>gt v (j+1))=sm n (fun r=>gt v (σ r+1)):=NB (g:=fun j=>gt v (j+1)) l5 fun j hj hn=>(h.vneg (j+1) (by omega) (by omega)).2 (off j hj hn)
  have e4:sm m (fun j=>gt v (j+1))≤sm n (fun r=>gt v (τ r+1)):=BW (g:=fun j=>gt v (j+1)) hτ fun j hj=>(h.vneg (j+1) (by omega) (by omega)).1
  omega
end
section
variable {n m zb:Nat} {qb:List (List Int)} {qc from_:Int} {taken:List Bool} {row:List Int}
theorem summed (hm:m≤64) (hr:∀ j,j<m→gt row (j+1)>0→1≤gt row (j+1)∧gt row (j+1)≤1000) (hc:∀ j,j<m→gt row (j+1)>0→0≤cst qb qc from_ taken (gt row (j+1)) (j+1)∧cst qb qc from_ taken (gt row (j+1)) (j+1)≤36028797018963968) :
  ∀ (f k:Nat) (s:Int),f+k=m→0≤s→s≤(k:Int)*36028797018963968→Jd qb qc from_ taken row f k s=s+sm f (fun i=>BX (cst qb qc from_ taken) row (k+i)):=by
 intro f
 induction f with
 | zero =>
  intro k s _ _ _
  show s=s+0
  omega
 | succ f ih =>
  intro k s hf h0 h1
  have ih:=ih (k+1)
  have ek:(1+(k:Int)).toNat=k+1:=by omega
  unfold Jd sm
  simp only[ek,bZ]
  have eg:sm f (fun i=>BX (cst qb qc from_ taken) row (k+(i+1)))=sm f (fun i=>BX (cst qb qc from_ taken) row (k+1+i)):=JY fun i _=>by rw[show k+(i+1)=k+1+i by omega]
  rw[eg]
  by_cases c:gt row (k+1)>0
  ·have hrk:=hr k (by omega) c
   have hck:=hc k (by omega) c
   rw[show decide (row[k+1]?.getD 0>0)=true from decide_eq_true c,cond_true]
   have ec:YQ (w64 ((row[k+1]?.getD 0)-1)) (w64 (1+(k:Int)-1)) (((qb.drop from_.toNat)[0]?.getD []).length:Int) qc taken (qb.drop from_.toNat)=cst qb qc from_ taken (gt row (k+1)) (k+1):=by
    unfold cst
    rw[show row[k+1]?.getD 0=gt row (k+1) from rfl,Zt (x:=gt row (k+1)-1) (by omega),Zt (x:=1+(k:Int)-1) (by omega),show 1+(k:Int)-1=((k+1:Nat):Int)-1 by omega]
   rw[ec,Zt (by omega),ih _ (by omega) (by omega) (by omega)]
   have:BX (cst qb qc from_ taken) row k=cst qb qc from_ taken (gt row (k+1)) (k+1):=by unfold BX;rw[if_pos c]
   omega
  ·rw[show decide (row[k+1]?.getD 0>0)=false from decide_eq_false c,cond_false,ih _ (by omega) (by omega) (by omega)]
   have:BX (cst qb qc from_ taken) row k=0:=by unfold BX;rw[if_neg c]
   omega
theorem PS (hP:Bl n m zb (cst qb qc from_ taken) qc) (hn:(qb.drop from_.toNat).length=n) (vw:((qb.drop from_.toNat)[0]?.getD []).length=zb) :
  ∃ σ,Fp n m σ∧ZM qb qc from_ taken=sm n (fun r=>cst qb qc from_ taken ((r+1:Nat):Int) (σ r+1))∧∀ τ,Fp n m τ→ZM qb qc from_ taken≤sm n (fun r=>cst qb qc from_ taken ((r+1:Nat):Int) (τ r+1)):=by
 have hn1:=hP.n1
 have hm:=hP.m1
 obtain⟨u',v',uv,ko,e1,h⟩:=rounds hP n 0 _ _ _ _ (by omega) (Iy hP)
 obtain⟨σ,s1,s2,s3⟩:=h.best
 have em:w64 ((zb:Int)+(n:Int))=(m:Int):=by rw[Zt (by omega)];omega
 have ev:ZM qb qc from_ taken=sm m (BX (cst qb qc from_ taken) uv):=by
  unfold ZM
  simp only[hn,vw,em]
  rw[show ((n:Int)==0)=false by simp;omega,cond_false,show (w64 ((n:Int)+1)).toNat=n+1 by rw[Zt (by omega)];omega,show (w64 ((m:Int)+1)).toNat=m+1 by rw[Zt (by omega)];omega,aO,aO,e1]
  unfold YB
  simp only
  have rb:=h.rowb
  rw[summed (m:=m) (by omega) (fun j hj q=>by have:=rb (j+1) (by omega);omega) (fun j hj q=>by
   have b:=rb (j+1) (by omega)
   have:=hP.cb (gt uv (j+1)).toNat (j+1) (by omega) (by omega) (by omega) (by omega)
   rwa [show (((gt uv (j+1)).toNat:Nat):Int)=gt uv (j+1) by omega] at this) m 0 0 (by omega) (by omega) (by omega),Int.zero_add]
  exact JY fun i _=>by rw[bY]
 rw[ev,s2]
 exact⟨σ,s1,rfl,s3⟩
end
end Go.Sky
namespace Go.Sky
open Go Go.Eng
structure Good (rows:List (List Int)) (zb:Nat) (qc:Int):Prop where
 n1:rows.length≤32
 c1:zb≤32
 mb:0≤qc∧qc≤1099511627776
 len:∀ r∈rows,r.length=zb
 bnd:∀ r∈rows,∀ c∈r,-1≤c∧c≤1099511627776
inductive Val (qc:Int):List (List Int)→List Bool→Int→Prop
 | nil (taken:List Bool):Val qc [] taken 0
 | skip {row:List Int} {rows:List (List Int)} {taken:List Bool} {t:Int}:Val qc rows taken t→Val qc (row::rows) taken (qc+t)
 | pick {row:List Int} {rows:List (List Int)} {taken:List Bool} {t:Int} (k:Nat):k<row.length→gb taken k=false→0≤gt row k→Val qc rows (taken.set k true) t→Val qc (row::rows) taken (gt row k+t)
def rw_ (rows:List (List Int)) (r:Nat):List Int:=rows[r]?.getD []
theorem BZ {rows:List (List Int)} {r:Nat} (h:r<rows.length):rw_ rows r∈rows:=by
 unfold rw_;rw[aM h];exact cQ h
theorem PT {l:List Int} {k:Nat} (h:k<l.length):gt l k∈l:=by
 unfold gt;rw[aM h];exact cQ h
structure Asg (rows:List (List Int)) (taken:List Bool) (zb:Nat) (τ:Nat→Nat):Prop where
 ok:∀ r,r<rows.length→τ r≠0→τ r≤zb∧gb taken (τ r-1)=false∧0≤gt (rw_ rows r) (τ r-1)
 inj:∀ r s,r<rows.length→s<rows.length→τ r=τ s→τ r≠0→r=s
def vl (rows:List (List Int)) (qc:Int) (τ:Nat→Nat) (r:Nat):Int:=if τ r=0 then qc else gt (rw_ rows r) (τ r-1)
theorem W2 {zb:Nat} {qc:Int}:∀ (rows:List (List Int)) (taken:List Bool) (τ:Nat→Nat),(∀ r∈rows,r.length=zb)→taken.length=zb→Asg rows taken zb τ→Val qc rows taken (sm rows.length (vl rows qc τ))
 | [],taken,τ,_,_,_=>.nil taken
 | row::rows,taken,τ,hl,ht,h=>by
  have es:sm (row::rows).length (vl (row::rows) qc τ)=vl (row::rows) qc τ 0+sm rows.length (vl rows qc (fun r=>τ (r+1))):=rfl
  have lr:=hl row (aJ ..)
  rw[es]
  by_cases c:τ 0=0
  ·rw[show vl (row::rows) qc τ 0=qc from if_pos c]
   refine .skip (W2 rows taken _ (fun r hr=>hl r (aG _ hr)) ht ⟨fun r hr hz=>h.ok (r+1) (by rw[aI];omega) hz,fun r s hr hs e hz=>?_⟩)
   have:=h.inj (r+1) (s+1) (by rw[aI];omega) (by rw[aI];omega) e hz
   omega
  ·rw[show vl (row::rows) qc τ 0=gt row (τ 0-1) from if_neg c]
   obtain⟨o1,o2,o3⟩:=h.ok 0 (by rw[aI];omega) c
   refine .pick (τ 0-1) (by omega) o2 o3 (W2 rows (taken.set (τ 0-1) true) _ (fun r hr=>hl r (aG _ hr)) (by rw[aL];exact ht) ⟨fun r hr hz=>?_,fun r s hr hs e hz=>?_⟩)
   ·obtain⟨p1,p2,p3⟩:=h.ok (r+1) (by rw[aI];omega) hz
    refine⟨p1,?_,p3⟩
    rw[NA _ _ (by omega),if_neg fun q=>?_]
    ·exact p2
    ·have:=h.inj (r+1) 0 (by rw[aI];omega) (by rw[aI];omega) (by omega) hz
     omega
   ·have:=h.inj (r+1) (s+1) (by rw[aI];omega) (by rw[aI];omega) e hz
    omega
theorem RP {zb:Nat} {qc:Int} {rows:List (List Int)} {taken:List Bool} {t:Int} (h:Val qc rows taken t):(∀ r∈rows,r.length=zb)→taken.length=zb→∃ τ,Asg rows taken zb τ∧t=sm rows.length (vl rows qc τ):=by
 induction h with
 | nil taken=>exact fun _ _=>⟨fun _=>0,⟨fun r hr=>absurd hr (cE _),fun r s hr=>absurd hr (cE _)⟩,rfl⟩
 | @skip row rows taken t _ ih =>
  intro hl ht
  obtain⟨τ,a,e⟩:=ih (fun r hr=>hl r (aG _ hr)) ht
  refine⟨fun r=>match r with|0=>0|r+1=>τ r,⟨fun r hr hz=>?_,fun r s hr hs q hz=>?_⟩,?_⟩
  ·cases r with
   | zero=>exact absurd rfl hz
   | succ r=>exact a.ok r (by rw[aI] at hr;omega) hz
  ·cases r with
   | zero=>exact absurd rfl hz
   | succ r =>
    cases s with
    | zero=>exact absurd q hz
    | succ s=>rw[a.inj r s (by rw[aI] at hr;omega) (by rw[aI] at hs;omega) q hz]
  ·rw[e];rfl
 | @pick row rows taken t k hk hf h0 _ ih =>
  intro hl ht
  have lr:=hl row (aJ ..)
  obtain⟨τ,a,e⟩:=ih (fun r hr=>hl r (aG _ hr)) (by rw[aL];exact ht)
  have ne:∀ r,r<rows.length→τ r≠k+1:=fun r hr q=>by
   obtain⟨_,p2,_⟩:=a.ok r hr (by omega)
   rw[q,dJ,NA _ _ (by omega),if_pos rfl] at p2
   cases p2
  refine⟨fun r=>match r with|0=>k+1|r+1=>τ r,⟨fun r hr hz=>?_,fun r s hr hs q hz=>?_⟩,?_⟩
  ·cases r with
   | zero=>exact⟨by show k+1≤zb;omega,hf,h0⟩
   | succ r =>
    have hr':r<rows.length:=by rw[aI] at hr;omega
    obtain⟨p1,p2,p3⟩:=a.ok r hr' hz
    refine⟨p1,?_,p3⟩
    have nr:=ne r hr'
    have hz':τ r≠0:=hz
    rw[NA _ _ (by omega),if_neg (by omega)] at p2
    exact p2
  ·cases r with
   | zero =>
    cases s with
    | zero=>rfl
    | succ s=>exact absurd (show τ s=k+1 from q.symm) (ne s (by rw[aI] at hs;omega))
   | succ r =>
    cases s with
    | zero=>exact absurd (show τ r=k+1 from q) (ne r (by rw[aI] at hr;omega))
    | succ s=>rw[a.inj r s (by rw[aI] at hr;omega) (by rw[aI] at hs;omega) q hz]
  ·rw[e];rfl
section
variable {zb:Nat} {qb:List (List Int)} {qc from_:Int} {taken:List Bool}
theorem GO (vw:((qb.drop from_.toNat)[0]?.getD []).length=zb) (r s:Nat) (_hr:r<1000) (hs:s<1000) (h:zb≤s):cst qb qc from_ taken ((r+1:Nat):Int) (s+1)=if s=zb+r then qc else 36028797018963968:=by
 unfold cst YQ
 rw[vw,show decide (((s+1:Nat):Int)-1≥(zb:Int))=true by simp;omega,cond_true,Zt (x:=((s+1:Nat):Int)-1-(zb:Int)) (by omega)]
 by_cases c:s=zb+r
 ·rw[if_pos c,show ((((s+1:Nat):Int)-1-(zb:Int))==((r+1:Nat):Int)-1)=true by simp;omega,cond_true]
 ·rw[if_neg c,show ((((s+1:Nat):Int)-1-(zb:Int))==((r+1:Nat):Int)-1)=false by simp;omega,cond_false]
theorem NC (vw:((qb.drop from_.toNat)[0]?.getD []).length=zb) (r s:Nat) (h:s<zb):cst qb qc from_ taken ((r+1:Nat):Int) (s+1)=if gb taken s=true then 36028797018963968 else if gt (rw_ (qb.drop from_.toNat) r) s<0 then 36028797018963968 else gt (rw_ (qb.drop from_.toNat) r) s:=by
 unfold cst YQ
 rw[vw,show decide (((s+1:Nat):Int)-1≥(zb:Int))=false by simp;omega,cond_false,show (((s+1:Nat):Int)-1).toNat=s by omega,show (((r+1:Nat):Int)-1).toNat=r by omega]
 by_cases c:gb taken s=true
 ·rw[if_pos c,show taken[s]?.getD false=true from c,cond_true]
 ·have c2:gb taken s=false:=by cases q:gb taken s;rfl;exact absurd q c
  rw[if_neg c,show taken[s]?.getD false=false from c2,cond_false]
  by_cases d:gt (rw_ (qb.drop from_.toNat) r) s<0
  ·rw[if_pos d,show decide (((qb.drop from_.toNat)[r]?.getD [])[s]?.getD 0<0)=true from decide_eq_true d,cond_true]
  ·rw[if_neg d,show decide (((qb.drop from_.toNat)[r]?.getD [])[s]?.getD 0<0)=false from decide_eq_false d,cond_false];rfl
theorem Good.prob (g:Good (qb.drop from_.toNat) zb qc) (hn:0<(qb.drop from_.toNat).length):Bl (qb.drop from_.toNat).length (zb+(qb.drop from_.toNat).length) zb (cst qb qc from_ taken) qc:=by
 have n1:=g.n1
 have c1:=g.c1
 have mb:=g.mb
 have vw:((qb.drop from_.toNat)[0]?.getD []).length=zb:=g.len _ (BZ hn)
 refine⟨⟨hn,n1⟩,⟨rfl,c1⟩,mb,fun x j h1 h2 h3 h4=>?_,fun x h1 h2=>?_,fun x y h1 h2 h3 h4 h5=>?_⟩
 ·obtain⟨r,rfl⟩:∃ r,x=r+1:=⟨x-1,by omega⟩
  obtain⟨s,rfl⟩:∃ s,j=s+1:=⟨j-1,by omega⟩
  by_cases c:s<zb
  ·rw[NC vw r s c]
   have rm:rw_ (qb.drop from_.toNat) r∈qb.drop from_.toNat:=BZ (by omega)
   have b:=g.bnd _ rm _ (PT (k:=s) (by rw[g.len _ rm];exact c))
   split
   ·omega
   ·split <;> omega
  ·rw[GO vw r s (by omega) (by omega) (by omega)]
   split <;> omega
 ·obtain⟨r,rfl⟩:∃ r,x=r+1:=⟨x-1,by omega⟩
  exact(GO vw r (zb+r) (by omega) (by omega) (by omega)).trans (if_pos rfl)
 ·obtain⟨r,rfl⟩:∃ r,x=r+1:=⟨x-1,by omega⟩
  obtain⟨s,rfl⟩:∃ s,y=s+1:=⟨y-1,by omega⟩
  exact(GO vw r (zb+s) (by omega) (by omega) (by omega)).trans (if_neg (by omega))
theorem S3 (g:Good (qb.drop from_.toNat) zb qc) (ht:taken.length=zb):Val qc (qb.drop from_.toNat) taken (ZM qb qc from_ taken)∧∀ t,Val qc (qb.drop from_.toNat) taken t→ZM qb qc from_ taken≤t:=by
 by_cases hn:0<(qb.drop from_.toNat).length
 ·have hP:=g.prob (taken:=taken) hn
  have n1:=g.n1
  have c1:=g.c1
  have mb:=g.mb
  have vw:((qb.drop from_.toNat)[0]?.getD []).length=zb:=g.len _ (BZ hn)
  obtain⟨σ,s1,s2,s3⟩:=PS hP rfl vw
  have small:ZM qb qc from_ taken≤35184372088832:=by
   refine dN (s3 (fun r=>zb+r) ⟨fun r hr=>by omega,fun r s _ _ e=>by omega⟩) ?_
   rw[JY (g:=fun _=>qc) (fun r hr=>(GO vw r (zb+r) (by omega) (by omega) (by omega)).trans (if_pos rfl)),L6]
   have:((qb.drop from_.toNat).length:Int)*qc≤32*1099511627776:=bP (by omega) mb.2 mb.1 (by omega)
   omega
  have each:∀ r,r<(qb.drop from_.toNat).length→cst qb qc from_ taken ((r+1:Nat):Int) (σ r+1)≤35184372088832:=fun r hr=>by
   have:=PR (f:=fun r=>cst qb qc from_ taken ((r+1:Nat):Int) (σ r+1)) (fun i hi=>(hP.cb (i+1) (σ i+1) (by omega) (by omega) (by omega) (by have:=s1.lt i hi;omega)).1) r hr
   rw[← s2] at this
   exact dN this small
  refine⟨?_,fun t hv=>?_⟩
  ·have key:∀ r,r<(qb.drop from_.toNat).length→(σ r<zb∧gb taken (σ r)=false∧0≤gt (rw_ (qb.drop from_.toNat) r) (σ r)∧cst qb qc from_ taken ((r+1:Nat):Int) (σ r+1)=gt (rw_ (qb.drop from_.toNat) r) (σ r))∨(¬ σ r<zb∧cst qb qc from_ taken ((r+1:Nat):Int) (σ r+1)=qc):=fun r hr=>by
    have e:=each r hr
    by_cases c:σ r<zb
    ·rw[NC vw r (σ r) c] at e ⊢
     by_cases d:gb taken (σ r)=true
     ·rw[if_pos d] at e;omega
     ·by_cases f:gt (rw_ (qb.drop from_.toNat) r) (σ r)<0
      ·rw[if_neg d,if_pos f] at e;omega
      ·rw[if_neg d,if_neg f]
       exact .inl ⟨c,by cases q:gb taken (σ r);rfl;exact absurd q d,by omega,rfl⟩
    ·have lt:=s1.lt r hr
     rw[GO vw r (σ r) (by omega) (by omega) (by omega)] at e ⊢
     by_cases d:σ r=zb+r
     ·rw[if_pos d];exact .inr ⟨c,rfl⟩
     ·rw[if_neg d] at e;omega
   have a:Asg (qb.drop from_.toNat) taken zb (fun r=>if σ r<zb then σ r+1 else 0):=by
    refine⟨fun r hr hz=>?_,fun r s hr hs e hz=>?_⟩
    ·rcases key r hr with ⟨k1,k2,k3,_⟩|⟨k1,_⟩
     ·simp only[if_pos k1,dJ]
      exact⟨k1,k2,k3⟩
     ·simp only[if_neg k1] at hz;exact absurd rfl hz
    ·by_cases c:σ r<zb
     ·by_cases d:σ s<zb
      ·simp only[if_pos c,if_pos d] at e
       exact s1.inj r s hr hs (by omega)
      ·simp only[if_pos c,if_neg d] at e;omega
     ·simp only[if_neg c] at hz;exact absurd rfl hz
   have v:=W2 (qc:=qc) _ taken _ g.len ht a
   rw[s2,JY (g:=vl (qb.drop from_.toNat) qc (fun r=>if σ r<zb then σ r+1 else 0)) fun r hr=>?_]
   ·exact v
   ·unfold vl
    rcases key r hr with ⟨k1,_,_,k4⟩|⟨k1,k2⟩
    ·simp only[if_pos k1,dJ]
     rw[k4,if_neg (by omega)]
    ·simp only[if_neg k1,if_pos]
     rw[k2]
  ·obtain⟨τ,a,e⟩:=RP (zb:=zb) hv g.len ht
   have q:=s3 (fun r=>if τ r=0 then zb+r else τ r-1) ⟨fun r hr=>?_,fun r s hr hs e=>?_⟩
   ·rw[e]
    refine dN q (Int.le_of_eq (JY fun r hr=>?_))
    unfold vl
    by_cases c:τ r=0
    ·simp only[if_pos c]
     exact(GO vw r (zb+r) (by omega) (by omega) (by omega)).trans (if_pos rfl)
    ·obtain⟨o1,o2,o3⟩:=a.ok r hr c
     simp only[if_neg c]
     rw[NC vw r (τ r-1) (by omega),if_neg (by rw[o2];exact Bool.false_ne_true),if_neg (by omega)]
   ·by_cases c:τ r=0
    ·simp only[if_pos c];omega
    ·simp only[if_neg c]
     have:=(a.ok r hr c).1
     omega
   ·by_cases c:τ r=0 <;> by_cases d:τ s=0
    ·simp only[if_pos c,if_pos d] at e;omega
    ·simp only[if_pos c,if_neg d] at e
     have:=(a.ok s hs d).1;omega
    ·simp only[if_neg c,if_pos d] at e
     have:=(a.ok r hr c).1;omega
    ·simp only[if_neg c,if_neg d] at e
     exact a.inj r s hr hs (by omega) c
 ·have e0:qb.drop from_.toNat=[]:=List.length_eq_zero_iff.1 (by omega)
  have el:ZM qb qc from_ taken=0:=by unfold ZM;rw[e0];rfl
  rw[el,e0]
  exact⟨.nil _,fun t hv=>by cases hv;exact cO _⟩
end
end Go.Sky
namespace Go.Sky
open Go Go.Eng
structure Vm (qb:List (List Int)) (qc from_:Int) (taken:List Bool) (r1 r2:Int):Prop where
 n1:1≤r1∧r1≤32
 m1:r2=((qb[0]?.getD []).length:Int)+r1∧(qb[0]?.getD []).length≤32
 w1:w64 (r1+1)=r1+1
 w2:w64 (r2+1)=r2+1
 prob:Bl r1.toNat r2.toNat (qb[0]?.getD []).length (cst qb qc from_ taken) qc
 rows:((qb.drop from_.toNat).length:Int)=r1
 first:((qb.drop from_.toNat)[0]?.getD []).length=(qb[0]?.getD []).length
 len:∀ r∈qb.drop from_.toNat,r.length=(qb[0]?.getD []).length
theorem Good.from {qb:List (List Int)} {zb:Nat} {qc:Int} (g:Good qb zb qc) (i:Nat):Good (qb.drop i) zb qc :=
 ⟨bL (by rw[aH];omega) g.n1,g.c1,g.mb,fun r hr=>g.len r (fU hr),fun r hr=>g.bnd r (fU hr)⟩
section
variable {qb:List (List Int)} {qc from_:Int} {taken:List Bool} {r1 r2:Int}
theorem Ao (hg:Good qb (qb[0]?.getD []).length qc) (h1:(r1==0)=false) (hr1:((qb.drop from_.toNat).length:Int)=r1) (hr2:w64 ((((qb.drop from_.toNat)[0]?.getD []).length:Int)+r1)=r2):Vm qb qc from_ taken r1 r2:=by
 have g:=hg.from from_.toNat
 have z:r1≠0:=by simpa using h1
 have n1:=g.n1
 have c1:=g.c1
 have first:=g.len _ (BZ (show 0<(qb.drop from_.toNat).length by omega))
 have first:((qb.drop from_.toNat)[0]?.getD []).length=(qb[0]?.getD []).length:=first
 rw[first,Zt (by omega)] at hr2
 have p:=g.prob (taken:=taken) (by omega)
 rw[show (qb.drop from_.toNat).length=r1.toNat by omega,show (qb[0]?.getD []).length+r1.toNat=r2.toNat by omega] at p
 exact⟨by omega,by omega,Zt (by omega),Zt (by omega),p,hr1,first,g.len⟩
theorem Vm.facts (s:Vm qb qc from_ taken r1 r2):(1≤r1∧r1≤32)∧(r1≤r2∧r2≤64)∧w64 (r1+1)=r1+1∧w64 (r2+1)=r2+1∧((qb.drop from_.toNat).length:Int)=r1:=by
 have a:=s.n1
 have b:=s.m1
 exact⟨a,by omega,s.w1,s.w2,s.rows⟩
theorem S4 (s:Vm qb qc from_ taken r1 r2):Vj r1.toNat r2.toNat (cst qb qc from_ taken) 0 (List.replicate ((w64 (r1+1)).toNat) 0) (List.replicate ((w64 (r2+1)).toNat) 0) (List.replicate ((w64 (r2+1)).toNat) 0) (List.replicate ((w64 (r2+1)).toNat) 0):=by
 have a:=s.facts
 rw[s.w1,s.w2,show (r1+1).toNat=r1.toNat+1 by omega,show (r2+1).toNat=r2.toNat+1 by omega]
 exact Iy s.prob
theorem PU {n m k:Nat} {c:Int→Nat→Int} {u v row way:List Int} (h:Vj n m c k u v row way) (hk:k≤n) (hd:n-k=0):Vj n m c n u v row way:=by
 rwa [show k=n by omega] at h
def Rnd (qb:List (List Int)) (qc from_:Int) (taken:List Bool) (r1 r2:Int) (k:Nat) (row:List Int) (at_:Int) (u v way low:List Int) (used:List Bool):Prop :=
 ∃ (S:List Nat) (a:Nat),at_=(a:Int)∧Dij r1.toNat r2.toNat (cst qb qc from_ taken) k row S a u v way low used∧1≤gt (YZ row k) a
def Found (qb:List (List Int)) (qc from_:Int) (taken:List Bool) (r1 r2:Int) (k:Nat) (row:List Int) (at_:Int) (u v way low:List Int) (used:List Bool):Prop :=
 ∃ (S:List Nat) (a:Nat),at_=(a:Int)∧Dij r1.toNat r2.toNat (cst qb qc from_ taken) k row S a u v way low used∧gt (YZ row k) a=0∧1≤a
variable {k:Nat} {u v row way low:List Int} {used:List Bool} {at_:Int}
theorem S5 (s:Vm qb qc from_ taken r1 r2) (h:Vj r1.toNat r2.toNat (cst qb qc from_ taken) k u v row way) (hk:k<r1.toNat) {R:List Int} (e1:R=Xs ((w64 (r2+1)).toNat) 0 (List.replicate ((w64 (r2+1)).toNat) 0)) (e2:R=low) :
  Rnd qb qc from_ taken r1 r2 k row 0 u v way low (List.replicate ((w64 (r2+1)).toNat) false):=by
 have a:=s.facts
 rw[e2] at e1
 rw[e1,s.w2,show (r2+1).toNat=r2.toNat+1 by omega]
 exact⟨[],0,rfl,h.start s.prob hk,by rw[FH h.lenr];omega⟩
theorem S7 (s:Vm qb qc from_ taken r1 r2) (h:Vj r1.toNat r2.toNat (cst qb qc from_ taken) k u v row way) (hk:k<r1.toNat) {R:List Int} (e1:R=Xs ((w64 (r2+1)).toNat) 0 (List.replicate ((w64 (r2+1)).toNat) 0)) (e2:R=low) :
  ∃ R,QB qb qc from_ taken r2 k row 100 0 u v way low (List.replicate ((w64 (r2+1)).toNat) false)=some R:=by
 have a:=s.facts
 obtain⟨e,u',v',ko,yv,yl,ρ,q1,_⟩:=phase s.prob hk h
 rw[e2] at e1
 rw[e1,s.w2,show (r2+1).toNat=r2.toNat+1 by omega]
 rw[show ((r2.toNat:Nat):Int)=r2 by omega] at q1
 exact⟨_,q1⟩
theorem RQ (s:Vm qb qc from_ taken r1 r2) (h:Vj r1.toNat r2.toNat (cst qb qc from_ taken) k u v row way) (hk:k<r1.toNat) {u3 v3 way3:List Int} (d:Rnd qb qc from_ taken r1 r2 k row at_ u3 v3 way3 low used) :
  (0≤at_∧at_≤r2)∧1≤((row.set 0 (1+(k:Int)))[at_.toNat]?.getD 0)∧((row.set 0 (1+(k:Int)))[at_.toNat]?.getD 0)≤r1:=by
 have f:=s.facts
 obtain⟨S,a,rfl,q1,q2⟩:=d
 have am:=q1.le a (aJ ..)
 rw[aO]
 refine⟨by omega,q2,?_⟩
 show gt (YZ row k) a≤r1
 by_cases a0:a=0
 ·rw[a0,FH h.lenr];omega
 ·rw[L0 h.lenr (by omega)]
  have:=h.rowb a am
  omega
theorem row_in (s:Vm qb qc from_ taken r1 r2) (h:Vj r1.toNat r2.toNat (cst qb qc from_ taken) k u v row way) (hk:k<r1.toNat) {j:Nat} (hj:j≤r2.toNat) :
  0≤((row.set 0 (1+(k:Int)))[j]?.getD 0)∧((row.set 0 (1+(k:Int)))[j]?.getD 0)≤r1:=by
 have f:=s.facts
 show 0≤gt (YZ row k) j∧gt (YZ row k) j≤r1
 by_cases a0:j=0
 ·rw[a0,FH h.lenr];omega
 ·rw[L0 h.lenr (by omega)]
  have:=h.rowb j hj
  omega
theorem ND (s:Vm qb qc from_ taken r1 r2) (h:Vj r1.toNat r2.toNat (cst qb qc from_ taken) k u v row way) (hk:k<r1.toNat) {u3 v3 way3:List Int} (d:Rnd qb qc from_ taken r1 r2 k row at_ u3 v3 way3 low used)
  {R4:Int×Int×List Int×List Int} {δ nx:Int} {we vp:List Int} (e1:R4=Xa qb qc from_ taken k row at_ u3 v3 used r2.toNat 0 1152921504606846976 0 way3 low) (e2:R4=(δ,nx,we,vp)) :
  ∃ (S:List Nat) (a b:Nat) (u6 v6 kt:List Int),at_=(a:Int)∧nx=(b:Int)∧1≤b∧b≤r2.toNat∧X7 k row δ (used.set a true) 0 u3 v3 vp=(u6,v6,kt)∧Dij r1.toNat r2.toNat (cst qb qc from_ taken) k row (a::S) b u6 v6 we kt (used.set a true):=by
 have hP:=s.prob
 obtain⟨S,a,rfl,q1,q2⟩:=d
 obtain⟨δ',b,ko,yv,u6,v6,kt,p1,p2,p3,p4,p5⟩:=L1 hP hk h.lenr h.rowb h.rowk h.inj (h.free hP hk) q1 q2
 rw[e2,p1] at e1
 injection e1 with e3 e4
 injection e4 with e5 e6
 injection e6 with e7 e8
 subst e3 e5 e7 e8
 exact⟨S,a,b,u6,v6,kt,rfl,rfl,p3,p4,p2,p5⟩
theorem Ey (s:Vm qb qc from_ taken r1 r2) (h:Vj r1.toNat r2.toNat (cst qb qc from_ taken) k u v row way) (hk:k<r1.toNat) {u3 v3 way3:List Int} (d:Rnd qb qc from_ taken r1 r2 k row at_ u3 v3 way3 low used)
  {R4:Int×Int×List Int×List Int} {δ nx:Int} {we vp:List Int} (e1:R4=Xa qb qc from_ taken k row at_ u3 v3 used r2.toNat 0 1152921504606846976 0 way3 low) (e2:R4=(δ,nx,we,vp)):1≤nx∧nx≤r2:=by
 have f:=s.facts
 obtain⟨S,a,b,u6,v6,kt,_,q1,q2,q3,_⟩:=ND s h hk d e1 e2
 omega
theorem PV (s:Vm qb qc from_ taken r1 r2) (h:Vj r1.toNat r2.toNat (cst qb qc from_ taken) k u v row way) (hk:k<r1.toNat) {u3 v3 way3:List Int} (d:Rnd qb qc from_ taken r1 r2 k row at_ u3 v3 way3 low used)
  {R4:Int×Int×List Int×List Int} {δ nx:Int} {we vp:List Int} (e1:R4=Xa qb qc from_ taken k row at_ u3 v3 used r2.toNat 0 1152921504606846976 0 way3 low) (e2:R4=(δ,nx,we,vp))
  {R5:List Int×List Int×List Int} {u6 v6 kt:List Int} (e3:R5=X7 k row δ (used.set at_.toNat true) 0 u3 v3 vp) (e4:R5=(u6,v6,kt)) (hz:(((row.set 0 (1+(k:Int)))[nx.toNat]?.getD 0)==0)=false) :
  Rnd qb qc from_ taken r1 r2 k row nx u6 v6 we kt (used.set at_.toNat true):=by
 obtain⟨S,a,b,u7,v7,o7,rfl,rfl,q2,q3,q4,q5⟩:=ND s h hk d e1 e2
 rw[aO,e4,q4] at e3
 injection e3 with e5 e6
 injection e6 with e7 e8
 subst e5 e7 e8
 have r:=row_in s h hk q3
 rw[aO] at hz
 rw[aO]
 have hz2:((row.set 0 (1+(k:Int)))[b]?.getD 0)≠0:=by simpa using hz
 exact⟨a::S,b,rfl,q5,by show 1≤((row.set 0 (1+(k:Int)))[b]?.getD 0);omega⟩
theorem S8 (s:Vm qb qc from_ taken r1 r2) (h:Vj r1.toNat r2.toNat (cst qb qc from_ taken) k u v row way) (hk:k<r1.toNat) {u3 v3 way3:List Int} (d:Rnd qb qc from_ taken r1 r2 k row at_ u3 v3 way3 low used)
  {R4:Int×Int×List Int×List Int} {δ nx:Int} {we vp:List Int} (e1:R4=Xa qb qc from_ taken k row at_ u3 v3 used r2.toNat 0 1152921504606846976 0 way3 low) (e2:R4=(δ,nx,we,vp))
  {R5:List Int×List Int×List Int} {u6 v6 kt:List Int} (e3:R5=X7 k row δ (used.set at_.toNat true) 0 u3 v3 vp) (e4:R5=(u6,v6,kt)) (hz:(((row.set 0 (1+(k:Int)))[nx.toNat]?.getD 0)==0)=true) :
  Found qb qc from_ taken r1 r2 k row nx u6 v6 we kt (used.set at_.toNat true):=by
 obtain⟨S,a,b,u7,v7,o7,rfl,rfl,q2,q3,q4,q5⟩:=ND s h hk d e1 e2
 rw[aO,e4,q4] at e3
 injection e3 with e5 e6
 injection e6 with e7 e8
 subst e5 e7 e8
 rw[aO] at hz
 rw[aO]
 have hz2:((row.set 0 (1+(k:Int)))[b]?.getD 0)=0:=by simpa using hz
 exact⟨a::S,b,rfl,q5,hz2,q2⟩
theorem PW (s:Vm qb qc from_ taken r1 r2) {u4 v4 yw low4:List Int} {uw:List Bool} (d:Found qb qc from_ taken r1 r2 k row at_ u4 v4 yw low4 uw):(0≤at_∧at_≤r2):=by
 have f:=s.facts
 obtain⟨S,a,rfl,q1,_⟩:=d
 have:=q1.le a (aJ ..)
 omega
theorem PX (s:Vm qb qc from_ taken r1 r2) {u4 v4 yw low4:List Int} {uw:List Bool} (d:Found qb qc from_ taken r1 r2 k row at_ u4 v4 yw low4 uw) {x:Int} (hx:0≤x∧x≤r2):0≤(yw[x.toNat]?.getD 0)∧(yw[x.toNat]?.getD 0)≤r2:=by
 have f:=s.facts
 obtain⟨S,a,rfl,q1,_⟩:=d
 have:=q1.wayb x.toNat (by omega)
 show 0≤gt yw x.toNat∧gt yw x.toNat≤r2
 omega
theorem RR (s:Vm qb qc from_ taken r1 r2) (h:Vj r1.toNat r2.toNat (cst qb qc from_ taken) k u v row way) (hk:k<r1.toNat) {u4 v4 yw low4:List Int} {uw:List Bool} (d:Found qb qc from_ taken r1 r2 k row at_ u4 v4 yw low4 uw):∃ R,XQ yw 100 at_ (row.set 0 (1+(k:Int)))=some R:=by
 obtain⟨S,a,rfl,q1,q2,q3⟩:=d
 obtain⟨ρ,e,_⟩:=q1.done s.prob hk h q2 q3
 exact⟨ρ,e⟩
theorem S9 (s:Vm qb qc from_ taken r1 r2) (h:Vj r1.toNat r2.toNat (cst qb qc from_ taken) k u v row way) (hk:k<r1.toNat) {u4 v4 yw low4:List Int} {uw:List Bool} (d:Found qb qc from_ taken r1 r2 k row at_ u4 v4 yw low4 uw)
  {R bg:List Int} (e1:XQ yw 100 at_ (row.set 0 (1+(k:Int)))=some R) (e2:R=bg):Vj r1.toNat r2.toNat (cst qb qc from_ taken) (k+1) u4 v4 bg yw:=by
 obtain⟨S,a,rfl,q1,q2,q3⟩:=d
 obtain⟨ρ,e,h'⟩:=q1.done s.prob hk h q2 q3
 rw[e] at e1
 injection e1 with e1
 rw[← e2,← e1];exact h'
theorem NE (s:Vm qb qc from_ taken r1 r2) {n:Nat} (h:Vj r1.toNat r2.toNat (cst qb qc from_ taken) n u v row way) {j:Nat} (hj:j≤r2.toNat):0≤(row[j]?.getD 0)∧(row[j]?.getD 0)≤r1:=by
 have f:=s.facts
 have:=h.rowb j hj
 show 0≤gt row j∧gt row j≤r1
 omega
theorem UV (s:Vm qb qc from_ taken r1 r2) (htk:taken.length=(qb[0]?.getD []).length) {x j:Int} (hx:1≤x∧x≤r1) (hj:1≤j∧j≤r2):(0≤w64 (x-1)∧w64 (x-1)<((qb.drop from_.toNat).length:Int))∧(0≤w64 (j-1)∧w64 (j-1)<4611686018427387904)∧(0≤(((qb.drop from_.toNat)[0]?.getD []).length:Int)∧(((qb.drop from_.toNat)[0]?.getD []).length:Int)<4611686018427387904)∧(taken.length:Int)=(((qb.drop from_.toNat)[0]?.getD []).length:Int)∧∀ r∈qb.drop from_.toNat,(r.length:Int)=(((qb.drop from_.toNat)[0]?.getD []).length:Int):=by
 have f:=s.facts
 have g:=s.m1
 rw[Zt (x:=x-1) (by omega),Zt (x:=j-1) (by omega),s.first]
 exact⟨by omega,by omega,by omega,by rw[htk],fun r hr=>by rw[s.len r hr]⟩
theorem Ez (s:Vm qb qc from_ taken r1 r2) {i j:Nat} (h:j<(used.set i true).length) (e:used.length=((w64 (r2+1)).toNat)):j≤r2.toNat:=by
 have f:=s.facts
 rw[aL] at h
 omega
end
end Go.Sky
namespace Go.Sky
open Go Go.Eng
theorem T9:∀ (xs:List Int) (k:Nat),(Qg xs k=.inl ()∧∀ c∈xs,-1≤c∧c≤1099511627776)∨Qg xs k=.inr 4
 | [],_=>.inl ⟨rfl,fun _ h=>by cases h⟩
 | x::xs,k=>by
  unfold Qg
  cases hb:((decide (x<(-1)))||(decide (x>1099511627776)))
  ·rw[cond_false]
   rcases T9 xs (k+1) with ⟨e,h⟩|e
   ·refine .inl ⟨e,fun c hc=>?_⟩
    rcases bB.1 hc with rfl|hc
    ·simp at hb;omega
    ·exact h c hc
   ·exact .inr e
  ·exact .inr rfl
theorem L8 {qb:List (List Int)}:∀ (xs:List (List Int)) (k:Nat),(Qh qb xs k=.inl ()∧(qb[0]?.getD []).length=(qb[0]?.getD []).length∧∀ r∈xs,r.length≤32∧r.length=(qb[0]?.getD []).length∧∀ c∈r,-1≤c∧c≤1099511627776)∨∃ e,Qh qb xs k=.inr e∧e≠0
 | [],_=>.inl ⟨rfl,rfl,fun _ h=>by cases h⟩
 | x::xs,k=>by
  unfold Qh
  cases h1:decide ((x.length:Int)>32)
  ·rw[cond_false]
   cases h2:((x.length:Int) != ((qb[0]?.getD []).length:Int))
   ·rw[cond_false]
    have h1:=of_decide_eq_false h1
    have h2:(x.length:Int)=((qb[0]?.getD []).length:Int):=by simpa using h2
    have h2:x.length=(qb[0]?.getD []).length:=by omega
    rcases T9 x 0 with ⟨e,h⟩|e
    ·rw[e]
     rcases L8 xs (k+1) with ⟨e2,_,h3⟩|e2
     ·refine .inl ⟨e2,rfl,fun r hr=>?_⟩
      rcases bB.1 hr with rfl|hr
      ·exact⟨by omega,h2,h⟩
      ·exact h3 r hr
     ·exact .inr e2
    ·rw[e];exact .inr ⟨4,rfl,by decide⟩
   ·exact .inr ⟨3,rfl,by decide⟩
  ·exact .inr ⟨2,rfl,by decide⟩
theorem WV {qb:List (List Int)} {qc:Int} (h:Yn qb qc=0):Good qb (qb[0]?.getD []).length qc:=by
 unfold Yn at h
 cases h1:decide ((qb.length:Int)>32)
 ·rw[h1,cond_false] at h
  have h1:=of_decide_eq_false h1
  rcases L8 (qb:=qb) qb 0 with ⟨e,_,h2⟩|⟨e,he,hz⟩
  ·rw[e] at h
   simp only[Sum.elim_inl] at h
   cases h3:((decide (qc<0))||(decide (qc>1099511627776)))
   ·simp at h3
    refine⟨by omega,?_,by omega,fun r hr=>(h2 r hr).2.1,fun r hr=>(h2 r hr).2.2⟩
    by_cases hn:0<qb.length
    ·have:=(h2 _ (BZ hn)).1
     exact this
    ·rw[List.length_eq_zero_iff.1 (show qb.length=0 by omega)];exact aP _
   ·rw[h3,cond_true] at h;exact absurd h (by decide)
  ·rw[he] at h
   simp only[Sum.elim_inr] at h
   exact absurd h hz
 ·rw[h1,cond_true] at h;exact absurd h (by decide)
theorem Da (qb:List (List Int)):QO qb=((qb[0]?.getD []).length:Int):=by
 unfold QO
 cases qb with
 | nil=>rfl
 | cons x xs =>
  rw[show (((x::xs).length:Int)==0)=false by simp[-List.length_cons]]
  rfl
end Go.Sky
