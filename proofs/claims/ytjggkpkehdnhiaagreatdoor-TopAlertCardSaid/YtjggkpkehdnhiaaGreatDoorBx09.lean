/- Lemmas toward the given statement (part 9 of 20): Scn. Each theorem states its own conditions; nothing is assumed beyond them. -/
import Derived.Test.YtjggkpkehdnhiaaGreatDoorBx05
import Derived.Test.YtjggkpkehdnhiaaGreatDoorBx06
import Derived.Test.YtjggkpkehdnhiaaGreatDoorBx08
import Derived.Test.YtjggkpkehdnhiaaGreatDoorBx03
namespace Go.Sky
open Go Go.Eng
section
variable (c0:Int) (c1:List Za)
theorem LJ:∀ (l:List followed) (k:Nat),(YJ c0 c1 l k=.inl ()∧∀ x∈l,Z3 x c0 c1=false) ∨
  ∃ j:Nat,YJ c0 c1 l k=.inr ((k+j:Nat):Int)∧(∀ x∈l.take j,Z3 x c0 c1=false)∧∃ x,l[j]?=some x∧Z3 x c0 c1=true
 | [],k=>.inl ⟨rfl,by simp⟩
 | x::xs,k=>by
  unfold YJ
  simp only
  cases hx:Z3 x c0 c1 with
  | true=>exact .inr ⟨0,rfl,by simp,x,rfl,hx⟩
  | false =>
   rcases LJ xs (k+1) with ⟨h,h2⟩|⟨j,h,h2,y,h3,h4⟩
   ·refine .inl ⟨h,fun y hy=>?_⟩
    rcases List.mem_cons.1 hy with rfl|hy
    ·exact hx
    ·exact h2 y hy
   ·refine .inr ⟨j+1,?_,fun y hy=>?_,y,?_,h4⟩
    ·rw[cond_false,h];congr 2;omega
    ·rw[List.take_succ_cons] at hy
     rcases List.mem_cons.1 hy with rfl|hy
     ·exact hx
     ·exact h2 y hy
    ·rw[List.getElem?_cons_succ];exact h3
theorem GR {α:Type} {l:List α} {j:Nat} {x:α} (h:l[j]?=some x):l.take (j+1)=l.take j ++ [x]:=by
 rw[List.take_add_one,h];rfl
theorem Nb {α:Type} {l:List α} {a:Nat} (x:α) (h:a<l.length):(l.set a x).take (a+1)=l.take a ++ [x]:=by
 rw[GR (x:=x) (by rw[List.getElem?_set_self h]),List.take_set_of_le (Nat.le_refl a)]
theorem M8 (s:List followed) (n:Nat) (hs:s.length<1000000000000):∀ (m k a:Nat) (s2:List followed),s.length=n+1+k+m→s2.length=s.length→a≤n+1+k→s2.drop (n+1+k)=s.drop (n+1+k) →
  s2.take a=(s.take (n+1+k)).filter (fun x=>!Z3 x c0 c1) →
  ∃ (b:Nat) (s3:List followed),X4 c0 c1 (n:Int) m k (a:Int) s2=((b:Int),s3)∧b≤s.length∧s3.length=s.length∧s3.take b=s.filter (fun x=>!Z3 x c0 c1)
 | 0,k,a,s2,h1,h2,h3,_,h5=>by
  refine⟨a,s2,rfl,by omega,h2,?_⟩
  rw[h5,List.take_of_length_le (by omega)]
 | m+1,k,a,s2,h1,h2,h3,h4,h5=>by
  have hj:n+1+k<s.length:=by omega
  have ei:(((n:Int)+1)+(k:Int)).toNat=n+1+k:=by omega
  have hx:s[n+1+k]?=some (s[n+1+k]'hj):=List.getElem?_eq_getElem hj
  generalize s[n+1+k]'hj=x at hx
  have hx2:s2[n+1+k]?=some x:=by
   have:=congrArg (fun l=>l[0]?) h4
   simp only[List.getElem?_drop,Nat.add_zero] at this
   rw[this,hx]
  have hd:s2.drop (n+1+(k+1))=s.drop (n+1+(k+1)):=by
   have:=congrArg (fun l=>l.drop 1) h4
   simp only[List.drop_drop] at this
   rw[show n+1+(k+1)=n+1+k+1 by omega]
   exact this
  have ht:s.take (n+1+(k+1))=s.take (n+1+k) ++ [x]:=by
   rw[show n+1+(k+1)=n+1+k+1 by omega];exact GR hx
  unfold X4
  simp only
  rw[ei,hx2,Option.getD_some]
  cases hg:Z3 x c0 c1 with
  | true =>
   rw[Bool.not_true,cond_false]
   refine M8 s n hs m (k+1) a s2 (by omega) h2 (by omega) hd ?_
   rw[h5,ht,List.filter_append]
   simp[hg]
  | false =>
   rw[Bool.not_false,cond_true,Zn (by omega),show (a:Int)+1=((a+1:Nat):Int) by omega,Int.toNat_natCast]
   refine M8 s n hs m (k+1) (a+1) (s2.set a x) (by omega) (by rw[List.length_set];exact h2) (by omega) ?_ ?_
   ·rw[List.drop_set_of_lt (by omega)];exact hd
   ·rw[Nb x (by omega),h5,ht,List.filter_append]
    simp[hg]
theorem B6 (s:List followed) (hs:s.length<1000000000000):Xh s c0 c1=s.filter (fun x=>!Z3 x c0 c1):=by
 unfold Xh XW
 rcases LJ c0 c1 s 0 with ⟨h,h2⟩|⟨j,h,h2,y,h3,h4⟩
 ·rw[h]
  show s=_
  exact(List.filter_eq_self.2 (fun x hx=>by simp[h2 x hx])).symm
 ·rw[h,Nat.zero_add]
  have hj:j<s.length:=(List.getElem?_eq_some_iff.1 h3).1
  simp only[Sum.elim_inr]
  rw[show ((j:Int)==(-1))=false from beq_eq_false_iff_ne.2 (by omega),cond_false]
  obtain⟨b,s3,e,hb,hl,ht⟩:=M8 c0 c1 s j hs (s.length-(j+1)) 0 j s (by omega) rfl (by omega) rfl (by
   rw[Nat.add_zero,GR h3,List.filter_append,List.filter_eq_self.2 (fun x hx=>by simp[h2 x hx])]
   simp[h4])
  rw[show ((s.length:Int)-((j:Int)+1)).toNat=s.length-(j+1) by omega,e]
  show (s3.take (b:Int).toNat++_).take (b:Int).toNat=_
  rw[Int.toNat_natCast,List.take_append_of_le_length (by rw[List.length_take];omega),List.take_take,Nat.min_self,ht]
end
theorem Nc {t r:Ze} {time:Int} (hr:ZA t time=r) (h:t.all.length≤64):∃ now,r=⟨t.rules,t.all.filter (fun x=>!Z3 x time now),t.next,t.last⟩:=by
 subst hr
 unfold ZA Y6
 simp only
 exact⟨_,by rw[B6 _ _ _ (by omega)]⟩
theorem Td {t r:Ze} {time:Int} (hr:ZA t time=r) (h:t.all.length≤64):r.all.length≤t.all.length:=by
 obtain⟨now,rfl⟩:=Nc hr h
 exact List.length_filter_le ..
end Go.Sky
namespace Go.Sky
open Go Go.Eng Go.Glue Go.Srt
def Sp (time:Int) (l:List Zg):Prop:=∀ s∈l,s.In∧s.Time=time
def Tr (time:Int) (l:List Track):Prop:=∀ t∈l,t.In∧t.Time=time
theorem Nh (time:Int):∀ (xs:List Zg) (k:Nat),(Y8 time xs k=.inl ()∧Sp time xs)∨(∃ e,Y8 time xs k=.inr e∧e≠0)∧¬ Sp time xs
 | [],_=>.inl ⟨rfl,fun _ h=>by cases h⟩
 | x::xs,k=>by
  unfold Y8
  simp only
  rcases KB x with ⟨h1,h2⟩|⟨h1,h2⟩
  ·rw[h1,show ((0:Int) != 0)=false from rfl,cond_false]
   by_cases ht:x.Time=time
   ·rw[show (x.Time != time)=false by simpa using ht,cond_false]
    rcases Nh time xs (k+1) with ⟨h,h3⟩|⟨h,h3⟩
    ·refine .inl ⟨h,fun s hs=>?_⟩
     rcases List.mem_cons.1 hs with rfl|hs
     ·exact⟨h2,ht⟩
     ·exact h3 s hs
    ·exact .inr ⟨h,fun hh=>h3 fun s hs=>hh s (List.mem_cons_of_mem _ hs)⟩
   ·rw[show (x.Time != time)=true by simpa using ht,cond_true]
    exact .inr ⟨⟨12,rfl,by decide⟩,fun hh=>ht (hh x (List.mem_cons_self ..)).2⟩
  ·rw[h1,show ((4:Int) != 0)=true from rfl,cond_true]
   exact .inr ⟨⟨4,rfl,by decide⟩,fun hh=>h2 (hh x (List.mem_cons_self ..)).1⟩
theorem Uc {t:Ze} {l:List Zg} {time:Int}:ZJ t l time=0↔l.length≤32∧(0≤time∧time≤200000)∧t.last<time∧Sp time l:=by
 unfold ZJ
 simp only[YN]
 by_cases h1:(l.length:Int)>32
 ·rw[if_pos (decide_eq_true h1)]
  exact⟨fun h=>(by cases h),fun h=>by omega⟩
 ·rw[if_neg (by simpa using h1)]
  by_cases h2:0≤time∧time≤200000
  ·rw[if_neg (by simp;omega)]
   by_cases h3:time≤t.last
   ·rw[if_pos (decide_eq_true h3)]
    exact⟨fun h=>(by cases h),fun h=>by omega⟩
   ·rw[if_neg (by simpa using h3)]
    rcases Nh time l 0 with ⟨h,h4⟩|⟨⟨e,h,he⟩,h4⟩
    ·rw[h]
     exact⟨fun _=>⟨by omega,h2,by omega,h4⟩,fun _=>rfl⟩
    ·rw[h]
     exact⟨fun hh=>absurd hh he,fun hh=>absurd hh.2.2.2 h4⟩
  ·rw[if_pos (by simp;omega)]
   exact⟨fun h=>(by cases h),fun h=>absurd h.2.1 h2⟩
theorem Ht {band:Int}:∀ (xs:List Zg) (k:Nat) (out:List Zg),∃ ys,ys.Sublist xs∧Xw band xs k out=out++ys
 | [],_,out=>⟨[],.slnil,by unfold Xw;rw[List.append_nil]⟩
 | x::xs,k,out=>by
  unfold Xw
  simp only
  cases Xd out x band
  ·rw[Bool.not_false,cond_true]
   obtain⟨ys,h1,h2⟩:=Ht (band:=band) xs (k+1) (out ++ [x])
   exact⟨x::ys,h1.cons_cons x,by rw[h2,List.append_assoc];rfl⟩
  ·rw[Bool.not_true,cond_false]
   obtain⟨ys,h1,h2⟩:=Ht (band:=band) xs (k+1) out
   exact⟨ys,h1.cons x,h2⟩
theorem Wu {time:Int}:∀ (xs:List Zg) (k:Nat),Sp time xs→Ji xs k=.inl ()
 | [],_,_=>rfl
 | x::xs,k,h=>by
  unfold Ji
  simp only
  rw[Qr.2 (h x (List.mem_cons_self ..)).1]
  exact Wu xs (k+1) fun s hs=>h s (List.mem_cons_of_mem _ hs)
theorem Hu {l:List Zg} {time:Int} (hl:l.length≤32) (h:Sp time l):Yr l 500=(Xw 500 (VQ l) 0 [],0):=by
 unfold Yr
 rw[show decide ((l.length:Int)>128)=false by simp;omega,cond_false,Wu l 0 h]
 rfl
theorem Ni {l:List Zg} {time:Int} {r:List Zg×Int} (hl:l.length≤32) (h:Sp time l) (hr:Yr l 500=r):r.1.length≤l.length∧Sp time r.1:=by
 subst hr
 rw[Hu hl h]
 obtain⟨ys,h1,h2⟩:=Ht (band:=500) (VQ l) 0 []
 rw[List.nil_append] at h2
 simp only
 rw[h2]
 have hp:(VQ l).Perm l:=List.mergeSort_perm ..
 exact⟨by have:=h1.length_le;rw[hp.length_eq] at this;exact this,fun s hs=>h s (hp.mem_iff.1 (h1.mem hs))⟩
def Qp (t:Track) (band:Int) (s:Zg):Int:=cond (YW t s band).1 (Yl (w64 ((ZN t.At s.At).tdiv 10000)) 1073741824) (-1)
theorem Pm {t:Track} {s:Zg} {band time:Int} (hb:0≤band∧band≤60000) (ht:t.In∧t.Time=time) (hs:s.In∧s.Time=time):(YW t s band).2=0:=by
 have e1:YE t=0:=by
  rcases Vo t with ⟨h,_⟩|⟨_,h⟩
  ·exact h
  ·exact absurd ht.1 h
 unfold YW
 rw[e1,Qr.2 hs.1]
 simp only[YN]
 rw[if_neg (by decide),if_neg (by decide),if_neg (by simp;omega),if_neg (by rw[ht.2,hs.2];simp)]
 split
 ·split
  ·rfl
  ·split <;> rfl
 ·rfl
theorem LK {t:Track} {s:Zg} {band:Int} (ht:t.In) (hs:s.In):-1≤Qp t band s∧Qp t band s≤1099511627776:=by
 unfold Qp
 cases (YW t s band).1
 ·exact⟨show (-1:Int) ≤ -1 by decide,show (-1:Int)≤1099511627776 by decide⟩
 ·rw[cond_true]
  have h:=Ut ht.2.1 hs.2.1
  have h1:0≤ZN t.At s.At/10000∧ZN t.At s.At/10000≤ZN t.At s.At:=Gk h.2.1 (by decide)
  rw[VZ 10000 h.2.1,Zn (by omega)]
  unfold Yl
  split <;> omega
theorem Nj {band time:Int} {x:Track} (hb:0≤band∧band≤60000) (hx:x.In∧x.Time=time):∀ (l:List Zg) (k:Nat) (row:List Int),row.length=k+l.length→Sp time l→Qs band x l k row=.inl (row.take k++l.map (Qp x band))
 | [],k,row,h,_=>by
  show Sum.inl row=_
  rw[List.map_nil,List.append_nil,List.take_of_length_le (by simp at h;omega)]
 | s::l,k,row,h,hs=>by
  rw[List.length_cons] at h
  unfold Qs
  simp only
  rw[Pm hb hx (hs s (List.mem_cons_self ..)),show ((0:Int) != 0)=false from rfl,cond_false]
  have key:∀ v:Int,v=Qp x band s→∀ row':List Int,row'=row.set k v→Qs band x l (k+1) row'=.inl (row.take k++(s::l).map (Qp x band)):=by
   intro v hv row' hr
   subst hr
   rw[Nj hb hx l (k+1) (row.set k v) (by rw[List.length_set];omega) (fun s hs'=>hs s (List.mem_cons_of_mem _ hs')),Nb v (by omega),List.append_assoc,List.map_cons,hv];rfl
  cases hf:(YW x s band).1
  ·exact key (-1) (by unfold Qp;rw[hf];rfl) _ rfl
  ·exact key _ (by unfold Qp;rw[hf,cond_true]) _ (by rw[List.set_set])
theorem Nk {spots:List Zg} {band time:Int} (hb:0≤band∧band≤60000) (hs:Sp time spots):∀ (l:List Track) (k:Nat) (out:List (List Int)),Tr time l→QL spots band l k out=.inl (out++l.map (fun t=>spots.map (Qp t band)))
 | [],k,out,_=>by show Sum.inl out=_;simp
 | x::l,k,out,h=>by
  unfold QL
  rw[Nj hb (h x (List.mem_cons_self ..)) spots 0 (List.replicate ((spots.length:Int).toNat) (0:Int)) (by simp) hs,List.take_zero,List.nil_append]
  show QL spots band l (k+1) (out ++ [spots.map (Qp x band)])=_
  rw[Nk hb hs l (k+1) _ (fun t ht=>h t (List.mem_cons_of_mem _ ht)),List.append_assoc];rfl
theorem Nl {tr:List Track} {spots:List Zg} {band time:Int} (h1:tr.length≤32) (h2:spots.length≤32) (hb:0≤band∧band≤60000) (ht:Tr time tr) (hs:Sp time spots):Xb tr spots band=(tr.map (fun t=>spots.map (Qp t band)),0):=by
 unfold Xb
 rw[show ((decide ((tr.length:Int)>32))||(decide ((spots.length:Int)>32)))=false by simp;omega,cond_false,Nk hb hs tr 0 [] ht]
 rfl
theorem U2.ins {miss:Int} {n:Nat} {rows:List (List Int)} {taken:List Bool} {to:List Int} {t:Int} (h:U2 miss rows taken to t):(∀ r∈rows,r.length=n)→∀ k∈to,k<(n:Int):=by
 induction h with
 | nil taken=>intro _ k hk;cases hk
 | skip _ ih =>
  intro hr k hk
  rcases List.mem_cons.1 hk with rfl|hk
  ·omega
  ·exact ih (fun r h=>hr r (List.mem_cons_of_mem _ h)) k hk
 | pick k h1 h2 h3 _ ih =>
  intro hr q hq
  rcases List.mem_cons.1 hq with rfl|hq
  ·have:=hr _ (List.mem_cons_self ..);omega
  ·exact ih (fun r h=>hr r (List.mem_cons_of_mem _ h)) q hq
theorem Tf:∀ (xs:List Int) (k:Nat),(∀ c∈xs,-1≤c∧c≤1099511627776)→Xz xs k=.inl ()
 | [],_,_=>rfl
 | x::xs,k,h=>by
  have hx:=h x (List.mem_cons_self ..)
  unfold Xz
  rw[show ((decide (x<(-1)))||(decide (x>1099511627776)))=false by simp;omega,cond_false]
  exact Tf xs (k+1) fun c hc=>h c (List.mem_cons_of_mem _ hc)
theorem M9 {costs:List (List Int)} {n:Nat} (hn:n≤32) (h0:costs ≠ []→(costs[0]?.getD []).length=n):∀ (xs:List (List Int)) (k:Nat),(∀ r∈xs,r∈costs∧r.length=n∧∀ c∈r,-1≤c∧c≤1099511627776)→X0 costs xs k=.inl ()
 | [],_,_=>rfl
 | x::xs,k,h=>by
  obtain⟨h1,h2,h3⟩:=h x (List.mem_cons_self ..)
  unfold X0
  rw[show decide ((x.length:Int)>32)=false by simp;omega,cond_false,h0 (fun e=>by rw[e] at h1;cases h1),h2,show ((n:Int) != (n:Int))=false by simp,cond_false,Tf x 0 h3]
  exact M9 hn h0 xs (k+1) fun r hr=>h r (List.mem_cons_of_mem _ hr)
theorem Pn {tr:List Track} {spots:List Zg} {band time:Int} {r4:List (List Int)×Int} {r5:List Int×Int×Int} (h1:tr.length≤32) (h2:spots.length≤32) (hb:0≤band∧band≤60000) (ht:Tr time tr) (hs:Sp time spots)
  (h4:Xb tr spots band=r4) (h5:YB r4.1 2147483648=r5):r5.1.length=tr.length∧∀ k∈r5.1,k<(spots.length:Int):=by
 rw[Nl h1 h2 hb ht hs] at h4
 subst h4
 have hrow:∀ r∈tr.map (fun t=>spots.map (Qp t band)),r.length=spots.length:=by
  intro r hr
  obtain⟨t,_,rfl⟩:=List.mem_map.1 hr
  exact List.length_map ..
 have hc:Yb (tr.map (fun t=>spots.map (Qp t band))) 2147483648=0:=by
  unfold Yb
  rw[show decide (((tr.map (fun t=>spots.map (Qp t band))).length:Int)>32)=false by rw[List.length_map];simp;omega,cond_false,M9 h2 (fun hne=>?_) _ 0 (fun r hr=>⟨hr,hrow r hr,fun c hc=>?_⟩)]
  ·rfl
  ·cases hm:tr with
   | nil=>rw[hm] at hne;exact absurd rfl hne
   | cons a b=>simp
  ·obtain⟨t,ht',rfl⟩:=List.mem_map.1 hr
   obtain⟨s,hs',rfl⟩:=List.mem_map.1 hc
   exact LK (ht t ht').1 (hs s hs').1
 obtain⟨to,e,p⟩:=B5 hc
 rw[e] at h5
 subst h5
 exact⟨by rw[p.len,List.length_map],p.ins hrow⟩
theorem Gu {f:Za} {t a:Int} (h:(Zo f t a).2=0):(Zo f t a).1.Track.Time=t∧(Zo f t a).1.Track.ID=f.Track.ID:=by
 unfold Zo at h ⊢
 simp only[YN] at h ⊢
 by_cases h1:(Zu f != 0)=true
 ·rw[if_pos h1] at h;simp at h h1;exact absurd h h1
 ·rw[if_neg h1] at h ⊢
  have hc:f.In:=XO.1 (by simpa using h1)
  have hct:=hc.1.1
  by_cases h2:ZX t 0 200000=true
  ·rw[if_pos h2] at h;cases h
  ·rw[if_neg h2] at h ⊢
   have ht:0≤t∧t≤200000:=by rw[JW] at h2;simpa using h2
   by_cases h3:ZX a 0 20=true
   ·rw[if_pos h3] at h;cases h
   ·rw[if_neg h3] at h ⊢
    by_cases h4:ZX (w64 (t-f.Track.Time)) 0 600=true
    ·rw[if_pos h4] at h;cases h
    ·rw[if_neg h4] at h ⊢
     by_cases h5:(w64 (t-f.Track.Time)==0)=true
     ·rw[if_pos h5]
      have h6:w64 (t-f.Track.Time)=0:=by simpa using h5
      rw[Zn (by omega)] at h6
      exact⟨by show f.Track.Time=t;omega,rfl⟩
     ·rw[if_neg h5] at h ⊢
      split at h
      ·cases h
      ·rename_i h6;rw[if_neg h6];exact⟨rfl,rfl⟩
theorem Hv (t:Ze):∀ (xs:List followed) (k:Nat) (out:List followed),(Zv t xs k out).length≤out.length+xs.length
 | [],_,out=>by show out.length≤_;simp
 | x::xs,k,out=>by
  unfold Zv
  have h:∀ o:List followed,o.length≤out.length+1→(Zv t xs (k+1) o).length≤out.length+(x::xs).length:=fun o ho=>by
   have:=Hv t xs (k+1) o
   rw[List.length_cons];omega
  simp only[YN]
  split
  ·split
   ·exact h _ (by omega)
   ·split
    ·exact h _ (by simp)
    ·exact h _ (by simp)
  ·exact h _ (by simp)
theorem Wv {t r:Ze} (hr:Zw t=r):r.all.length≤t.all.length:=by
 subst hr
 have:=Hv t t.all 0 []
 simpa[Zw,Y6] using this
end Go.Sky
