/- Lemmas toward the given statement (part 18 of 20): TSeen Nd TTop Oa Tube Ob Oc PairK. Each theorem states its own conditions; nothing is assumed beyond them. -/
import Derived.Test.YtjggkpkehdnhiaaGreatDoorBp17
import Derived.Test.YtjggkpkehdnhiaaGreatDoorBp10
import Derived.Test.YtjggkpkehdnhiaaGreatDoorBp03
import Derived.Test.YtjggkpkehdnhiaaGreatDoorBp02
set_option maxRecDepth 100000
section
namespace Go.Sky
open Go Go.Eng Go.Glue Go.Srt
def Vq:Zn:=⟨2,⟨30000,40000⟩,400000,80,3⟩
structure Site (s:Zn):Prop where
 chk:Y6 s=0
 x:-20000≤s.At.X∧s.At.X≤30000
 y:0≤s.At.Y∧s.At.Y≤40000
 reach:s.Reach=400000
 rerr:s.RangeError≤80
 aerr:s.AzimuthError≤3
theorem Ho:Site Vg:=⟨by kernel_rfl,by decide,by decide,rfl,by decide,by decide⟩
theorem DN:Site Vq:=⟨by kernel_rfl,by decide,by decide,rfl,by decide,by decide⟩
theorem UK {s:Zn} (hs:Site s) {f:Zq} (h:Jy f) {t:Int} (ht:0≤t∧t≤200):(ZK s (JQ f t)).2=0:=by
 have p:=G5 h ht
 have hx:=hs.x;have hy:=hs.y
 refine SV hs.chk (CO h ht) ?_
 unfold JQ
 simp only
 rw[p.1,hs.reach]
 exact CP (X:=130000) (Y:=120000) (by unfold PIn;omega) (by unfold PIn;simp only;omega) (by decide) (by simp only;omega) (by simp only;omega) (by decide)
theorem MH {s:Zn} (hs:Site s) {f:Zq} (h:Jy f) {T:Nat} (hT:T≤200) :
  (Yb s (ZK s (JQ f (T:Int))).1).2=0∧UX (Yb s (ZK s (JQ f (T:Int))).1).1 (T:Int) f.height f.code (QC f T):=by
 have ht:0≤(T:Int)∧(T:Int)≤200:=by omega
 have hp:=UK hs h ht
 have hk:=WA hp
 have hra:=DG hp
 have haz:=Gm hp
 have hpo:=VA hp
 have pl:=G5 h ht
 have hsx:=hs.x;have hsy:=hs.y
 have pi:PIn (JQ f (T:Int)).At:=by unfold JQ PIn;simp only;rw[pl.1];simp only;omega
 have si:PIn s.At:=by unfold PIn;omega
 have q:=GU si pi
 have a:=GA (x:=s.At.X-(JQ f (T:Int)).At.X) (n:=125000) (by unfold JQ;simp only;rw[pl.1];simp only;omega)
 have b:=GA (x:=s.At.Y-(JQ f (T:Int)).At.Y) (n:=115000) (by unfold JQ;simp only;rw[pl.1];simp only;omega)
 have nv:(ZK s (JQ f (T:Int))).1.Range≤175000:=by
  rw[hpo.2.2.2.2]
  have r:=ME (n:=ZN s.At (JQ f (T:Int)).At) (by rw[q.1];exact⟨by omega,q.2⟩)
  simp only
  rcases dC 175000 (Qv (ZN s.At (JQ f (T:Int)).At)) with g|g
  ·exfalso
   have:=bP (gG g) (gG g) (by decide) r.1
   rw[q.1] at r this
   omega
  ·exact g
 have hx:=SX (s:=s) (p:=(ZK s (JQ f (T:Int))).1) hs.chk hk.1 hk.2 ⟨hra.1,by omega⟩ haz (by omega) (by omega)
 have hh:=CQ hp hx
 obtain⟨_,_,_,vx,vy,_,_,_,xi,xe,_,xt,xh,xc⟩:=B9 hx
 have e0:=Ac hx
 have re:=hs.rerr;have ae:=hs.aerr;have ae0:=hpo.2.1.aerr
 have m:(ZK s (JQ f (T:Int))).1.Range*s.AzimuthError≤175000*3:=bP nv ae (by omega) (by decide)
 refine⟨hx,?_,?_,?_,?_,?_⟩
 ·rw[xt,hpo.2.2.2.2];rfl
 ·rw[xh,hpo.2.2.2.2];rfl
 ·rw[xc,hpo.2.2.2.2];rfl
 ·refine⟨e0.1,?_⟩
  rw[xe]
  omega
 ·have wy:(JQ f (T:Int)).At=QC f T:=H7 h hT
  rw[MC xi pi,wy] at hh
  exact⟨e0.1,hh⟩
def CV (fs:List Zq) (T:Int) (p:Zs) (s:Zn) (f:Zq):Prop:=(s=Vg∨s=Vq)∧f∈fs∧p=(ZK s (JQ f T)).1
theorem BA {s:Zn} (h:s=Vg∨s=Vq):Site s:=by
 rcases h with rfl|rfl
 ·exact Ho
 ·exact DN
theorem OW {p:Zs} {s:Zn} (h:s.ID≠p.Radar) (xs:List Zn) (k:Nat) (out:List Zj):Xb p (s::xs) k out=Xb p xs (k+1) out:=by
 rw[Xb,show (s.ID != p.Radar)=true by simpa using h,cond_true]
theorem TV {p:Zs} {s:Zn} (h:p.Radar=s.ID) (h0:(Yb s p).2=0) (xs:List Zn) (k:Nat) (out:List Zj):Xb p (s::xs) k out=Xb p xs (k+1) (out ++ [(Yb s p).1]):=by
 rw[Xb,show (s.ID != p.Radar)=false by simp[h],cond_false]
 simp only
 rw[h0]
 rfl
theorem SZ {p:Zs} {s:Zn} (hs:s=Vg∨s=Vq) (hr:p.Radar=s.ID) (h0:(Yb s p).2=0) (out:List Zj):Xb p [Vg,Vq] 0 out=out ++ [(Yb s p).1]:=by
 rcases hs with rfl|rfl
 ·rw[TV hr h0,OW (by rw[hr];decide)]
  rfl
 ·rw[OW (by rw[hr];decide),TV hr h0]
  rfl
theorem Na {fs:List Zq} (hf:∀ f∈fs,Jy f) {T:Nat} (hT:T≤200):∀ (pl:List Zs) (k:Nat) (out:List Zj),(∀ p∈pl,∃ s f,CV fs (T:Int) p s f) →
  ∃ ys,Je [Vg,Vq] pl k out=out++ys∧KV (fun p y=>∃ s f,CV fs (T:Int) p s f∧y=(Yb s p).1) pl ys
 | [],k,out,_=>⟨[],by unfold Je;simp,.nil⟩
 | p::pl,k,out,h=>by
  obtain⟨s,f,hs,hff,hp⟩:=h p (aJ ..)
  have ho:=BA hs
  have hk:=WA (UK ho (hf f hff) (t:=(T:Int)) (by omega))
  have hx:=(MH ho (hf f hff) hT).1
  rw[← hp] at hk hx
  obtain⟨ys,e,q⟩:=Na hf hT pl (k+1) (out ++ [(Yb s p).1]) fun p hp=>h p (aG _ hp)
  refine⟨_::ys,?_,.cons ⟨s,f,⟨hs,hff,hp⟩,rfl⟩ q⟩
  unfold Je YB
  simp only
  rw[SZ hs hk.2 hx,e,bT]
  rfl
theorem Nb:∀ (xs:List Zs) (k:Nat),(∀ p∈xs,Ym p=0)→Qw xs k=.inl ()
 | [],k,_=>rfl
 | x::xs,k,h=>by
  rw[Qw]
  try simp only
  rw[h x aJ]
  simp only[bne_self_eq_false,cond_false]
  exact Nb xs (k+1) fun p hp=>h p (aG _ hp)
theorem DO {T:Type} (q:T→T→Bool):∀ (l:List T) (p:T),(Hm q p l).Sublist l
 | [],_=>.slnil
 | b::l,p=>by
  rw[Hm]
  split
  ·exact(DO q l b).cons b
  ·exact(DO q l b).cons_cons b
theorem Rj {T:Type} {q:T→T→Bool} (hq:∀ a b,q a b=true→a=b) {x:T}:∀ (l:List T) (p:T),x∈l→x=p∨x∈Hm q p l
 | b::l,p,h=>by
  have hb:x=b→x=p∨x∈Hm q p (b::l):=by
   rintro rfl
   rw[Hm]
   split
   ·rename_i g;exact .inl (hq _ _ g)
   ·exact .inr (aJ ..)
  rcases bB.1 h with h|h
  ·exact hb h
  ·rcases Rj hq l b h with h|h
   ·exact hb h
   ·right
    rw[Hm]
    split
    ·exact h
    ·exact aG _ h
theorem Ih {T:Type} (q:T→T→Bool) (l:List T):(cpt q l).Sublist l:=by
 cases l with
 | nil=>exact .slnil
 | cons a l=>exact(DO q l a).cons_cons a
theorem Ii {T:Type} {q:T→T→Bool} (hq:∀ a b,q a b=true→a=b) {x:T} {l:List T} (h:x∈l):x∈cpt q l:=by
 cases l with
 | nil=>exact h
 | cons a l =>
  rcases bB.1 h with rfl|h
  ·exact aJ ..
  ·rcases Rj hq l a h with h|h
   ·rw[h];exact aJ ..
   ·exact aG _ h
theorem OX (a b:Zs) (h:Zs.eqb a b=true):a=b:=by
 rw[Zs.eqb_eq] at h
 exact of_decide_eq_true h
def Q7 (s:Zn) (fs:List Zq) (T:Int):List Zs:=fs.map fun f=>(ZK s (JQ f T)).1
theorem Rk {fs:List Zq} (hf:∀ f∈fs,Jy f) {T:Nat} (hT:T≤200) {s:Zn} (hs:Site s) {p:Zs} (hp:p∈Q7 s fs (T:Int)):Ym p=0∧p.Time=(T:Int):=by
 obtain⟨f,h,rfl⟩:=bD.1 hp
 have h0:=UK hs (hf f h) (t:=(T:Int)) (by omega)
 exact⟨(WA h0).1,by rw[(VA h0).2.2.2.2];rfl⟩
theorem DR {x:List Zs} {T:Int} (hx:∀ p∈x,Ym p=0∧p.Time=T):∀ (xs:List Zs) (k:Nat),k+xs.length=x.length→(∀ p∈xs,p∈x)→Jf x xs k=.inl ()
 | [],_,_,_=>rfl
 | p::xs,k,hl,h=>by
  rw[aI] at hl
  have hp:=hx p (h p (aJ ..))
  have ih:=DR hx xs (k+1) (by omega) fun p hp=>h p (aG _ hp)
  unfold Jf
  simp only
  rw[hp.1,show ((0:Int) != 0)=false from rfl,cond_false]
  have e:k-1<x.length:=by omega
  have ht:(x[k-1]?.getD Zs.zero).Time=T:=by
   rw[aM e]
   exact(hx _ (cQ e)).2
  rw[ht,hp.2,decide_eq_false (Int.lt_irrefl T),cond_false,ih]
  cases decide ((k:Int)>0) <;> rfl
theorem OY {a b:List Zs} {T:Int} (ha:∀ p∈a,Ym p=0∧p.Time=T) (hb:∀ p∈b,Ym p=0∧p.Time=T) (la:a.length≤256) (lb:b.length≤256):Xc [a,b]=(cpt Zs.eqb (Wu (a++b)),0):=by
 unfold Xc Jg Jg Jg
 rw[DR ha a 0 (by omega) fun _ h=>h,DR hb b 0 (by omega) fun _ h=>h,decide_eq_false (show ¬ (a.length:Int)>256 by omega),decide_eq_false (show ¬ (b.length:Int)>256 by omega)]
 rfl
theorem MI {s:Zn} (hs:Site s) {T:Nat} (hT:T≤200):∀ (xs:List Zq) (k:Nat) (feed:List Zs),(∀ f∈xs,Jy f)→Qp (T:Int) s xs k feed=.inl (feed++Q7 s xs (T:Int))
 | [],_,feed,_=>by unfold Qp Q7;simp
 | f::xs,k,feed,h=>by
  have h0:=UK hs (h f (aJ ..)) (t:=(T:Int)) (by omega)
  unfold Qp
  simp only
  rw[show (⟨(T:Int),Y1 f (T:Int),f.height,f.code,0⟩:Zj)=JQ f (T:Int) from rfl,h0,show ((0:Int) != 0)=false from rfl,cond_false,MI hs hT xs (k+1) _ fun f hf=>h f (aG _ hf)]
  unfold Q7
  simp
theorem Ij {fs:List Zq} (hf:∀ f∈fs,Jy f) (hn:fs.length≤3) {T:Nat} (hT:T≤200) :
  ∃ l,ZV Ya fs (T:Int)=(l,true)∧l.length≤6∧(∀ s∈l,∃ f∈fs,UX s (T:Int) f.height f.code (QC f T))∧∀ f∈fs,∃ s∈l,s.Code=f.code:=by
 have q1:=fun p (hp:p∈Q7 Vg fs (T:Int))=>Rk hf hT Ho hp
 have q2:=fun p (hp:p∈Q7 Vq fs (T:Int))=>Rk hf hT DN hp
 have l1:(Q7 Vg fs (T:Int)).length=fs.length:=aD ..
 have l2:(Q7 Vq fs (T:Int)).length=fs.length:=aD ..
 have hm:=OY q1 q2 (by omega) (by omega)
 obtain⟨pl,hpl⟩:∃ pl,pl=cpt Zs.eqb (Wu (Q7 Vg fs (T:Int)++Q7 Vq fs (T:Int))):=⟨_,rfl⟩
 rw[← hpl] at hm
 have ri:(Wu (Q7 Vg fs (T:Int)++Q7 Vq fs (T:Int))).Perm (Q7 Vg fs (T:Int)++Q7 Vq fs (T:Int)):=gD ..
 have ka:pl.Sublist (Wu (Q7 Vg fs (T:Int)++Q7 Vq fs (T:Int))):=by rw[hpl];exact Ih ..
 have hin:∀ p∈pl,p∈Q7 Vg fs (T:Int)∨p∈Q7 Vq fs (T:Int):=fun p hp=>bO.1 (ri.mem_iff.1 (ka.mem hp))
 have jl:∀ p,p∈Q7 Vg fs (T:Int)→p∈pl:=fun p hp=>by
  rw[hpl];exact Ii OX (ri.mem_iff.2 (bO.2 (.inl hp)))
 have hlen:pl.length≤6:=by
  have:=ka.length_le
  rw[ri.length_eq,aW] at this
  omega
 have his:∀ p∈pl,∃ s f,CV fs (T:Int) p s f:=fun p hp=>by
  rcases hin p hp with h|h
  ·obtain⟨f,h',rfl⟩:=bD.1 h;exact⟨Vg,f,.inl rfl,h',rfl⟩
  ·obtain⟨f,h',rfl⟩:=bD.1 h;exact⟨Vq,f,.inr rfl,h',rfl⟩
 obtain⟨ys,e,q⟩:=Na hf hT pl 0 [] his
 have hsp:XT [Vg,Vq] pl=(ys,0):=by
  unfold XT
  have c:Xx pl=0:=by
   unfold Xx
   rw[decide_eq_false (by omega),cond_false,Nb pl 0 fun p hp=>by
    rcases hin p hp with h|h
    ·exact(q1 p h).1
    ·exact(q2 p h).1]
   rfl
  rw[show QP [Vg,Vq]=0 by kernel_rfl,c]
  simp only[bne_self_eq_false,cond_false]
  unfold YB
  rw[e]
  rfl
 refine⟨ys,?_,by rw[q.len];exact hlen,fun s hs=>?_,fun f hff=>?_⟩
 ·rw[show Ya=[Vg,Vq] from rfl]
  unfold ZV Qq Qq Qq
  rw[MI Ho hT fs 0 [] hf,MI DN hT fs 0 [] hf]
  simp only[Sum.elim_inl,bK]
  rw[show ([Q7 Vg fs (T:Int)] ++ [Q7 Vq fs (T:Int)])=[Q7 Vg fs (T:Int),Q7 Vq fs (T:Int)] from rfl,hm]
  simp only
  rw[hsp]
  rfl
 ·obtain⟨p,hp,s',f,⟨h1,h2,rfl⟩,rfl⟩:=q.right hs
  exact⟨f,h2,(MH (BA h1) (hf f h2) hT).2⟩
 ·obtain⟨y,hy,s',f',⟨h1,h2,h3⟩,h4⟩:=q.left (jl _ (bD.2 ⟨f,hff,rfl⟩))
  refine⟨y,hy,?_⟩
  have g:=(MH (BA h1) (hf f' h2) hT).2
  rw[← h3] at g
  rw[h4,g.code]
  have c1:=VA (UK Ho (hf f hff) (t:=(T:Int)) (by omega))
  have c2:=VA (UK (BA h1) (hf f' h2) (t:=(T:Int)) (by omega))
  have:=congrArg Zs.Code h3
  rw[c1.2.2.2.2,c2.2.2.2.2] at this
  exact this.symm
end Go.Sky
end
section
namespace Go.Sky
open Go Go.Eng Go.Proofs
def QI (_x:Int):Bool :=
 false
instance:Inhabited Zi:=⟨Zi.zero⟩
theorem WC (_x:Int) (w:World):Calls Tryz.prog 11 #[.int .i64 _x] w (Ret w (.bool (QI _x))):=by
 exact Zp (vs:=[.i _x]) (w:=w) Tryz.func11 rfl Tryz.ntmps11 rfl (Zf (Zc 1 [] [(2,.b false)] {} (Zz (Zc 1 [] [(2,.b false)] {} (Zb rfl (TC.ret (TE.ret [] (.b false) {} (by unfold QI;refine eS (fun z=>(.b z:Value)) ?_;exact rfl))))))))
def VR (l:List Zq):Nat→Nat→Int→Zi→(Int×Zi)
 | 0,_,last,t=>(last,t)
 | m+1,k,_,t=>let r3:=Ya
  let r4:=ZV r3 l (w64 (4*(k:Int)))
  cond (!r4.2) (
   default) (
   let r5:=QI (k:Int)
   cond r5 (
    default) (
    let r6:=Zy t r4.1 (w64 (4*(k:Int)))
    cond (r6.2.1 != 0) (
     default) (
     VR l m (k+1) (w64 (4*(k:Int))) r6.2.2)))
def UL (l:List Zq) (x7:Int):Zi×Int×Bool :=
 let r1:=Yh
 let r2:=Y7 r1
 cond ((r2.2 != 0)||false) (
  (Zi.zero,0,false)) (
  YB (VR l ((x7:Int).toNat) 0 0 r2.1) (fun (ku,t_2) =>
   (t_2,ku,true)))
theorem Ph {t:Zi} {l:List Zj} {time:Int} {r:List Track×Int×Zi} (hr:Zy t l time=r) (hl:l.length≤32) (hs:Sp time l) (h0:0≤time∧time≤200000) (h1:t.last<time) (hn:t.all.length≤32):r.2.1=0∧r.2.2.all.length≤32∧r.2.2.last=time:=by
 have hc:=G2.2 ⟨hl,h0,h1,hs⟩
 have e:r.2.1=0:=by
  rw[← hr]
  unfold Zy
  simp only[hc]
  rfl
 rcases Dn hr with h|h
 ·exact absurd e h.1
 ·exact⟨e,h.2.2.2.2.2.1 hn,h.2.2.2.2.1⟩
theorem Ae (A_l:Option Addr) (c_l:Nat) (l:List Zq) (x7:Int) (w:World) (hM:Sat (cx w) [] w) (h_l:Rd w 6 A_l (l.map Zq.c)) (km:l.length≤c_l) (hT:G8 w) (hn:l.length≤4∧0≤x7∧x7≤12) (hs:∀ T:Int,0≤T→T≤48→(ZV Ya l T).2=true∧(ZV Ya l T).1.length≤32∧Sp T (ZV Ya l T).1):Calls Tryz.prog 10 #[.slice A_l l.length c_l,.int .i64 x7,.func (.func 11) #[] #[]] w (JH (Γ:=Nat×(Option Addr×Nat)) (cx w) (fun g=>.tuple #[.pointer (some ⟨g.1,0,none⟩),.int .i64 ((UL l x7).2.1),.bool ((UL l x7).2.2)]) (fun g=>[.inl (g.1,.cells (Zi.k (⟨⟨((UL l x7).1).rules.Need,((UL l x7).1).rules.Of,((UL l x7).1).rules.Misses,((UL l x7).1).rules.Accel,((UL l x7).1).rules.Place,((UL l x7).1).rules.Speed⟩,((UL l x7).1).all,((UL l x7).1).next,((UL l x7).1).last⟩:Zi) g.2.1 g.2.2) 118 (0,0)),.inr (Own g.2.1 g.2.2 122 23 ((((UL l x7).1).all).map followed.c))])):=by
 have s_l:=h_l.short;rw[aD] at s_l
 refine YS (w0:=(cx w)) (vs:=[.slice A_l l.length c_l,.i x7,.func (.func 11) #[] #[]]) hM Tryz.func10 rfl Tryz.ntmps10 rfl (Zf (Zc 3 [] [(6,.pointer none),(7,.i 0),(8,.b false)] {} (Zz (TL.c 18 (Yh) (fun r1=>ZB.v r1) (fun w _=>Ub w) {} (fun r1 hr1=>Be (Γ:=Nat×AN) 0 19 (Y7 r1) (fun r2 g=>.tuple #[.p0 g.1,.i r2.2]) (fun r2 g=>[Bk g.1 (Zi.k r2.1 g.2.1 g.2.2) 118,Ow g.2.1 g.2.2 122 23 (r2.1.all.map followed.c)]) [] Kr (fun w hM=>Wp r1 w hM (by subst hr1;rfl)) {} (fun r2 hr2=>?_))))))
 have kn_:r2.1.all.length≤32∧r2.1.last<0:=by rw[← hr2,← hr1];decide
 rintro⟨xw,A,c⟩
 refine Y3 (fun w hM=>hM.short_at 1 rfl) (fun sv=>Zc 7 [] [(9,.p0 xw),(10,.i r2.2)] {} (Z1 (Zf (Zc 3 [] [(24,.b (r2.2 != 0))] {} (XM 24 (r2.2 != 0) 6 [] [] (fun β=>[(27,.b (β||false))]) Kr {} {} (Zb rfl (TC.cond ((r2.2 != 0)||false) rfl Kr (fun h1=>?_) (fun h1=>?_))))))))
 ·exact((by have e_:r2.2=0:=(by rw[← hr2,← hr1];rfl);rw[e_] at h1;cases h1):False).elim
 ·have vm:=(QA (Z2 h1))
  refine Yc (Zc 1 [] [(11,.i 0)] {} (Z1 (Zf (Zc 2 [] [(28,.i x7),(29,.i 0)] {} (Zb rfl ?_)))))
  obtain⟨R1,hR⟩:∃ R,R=VR l ((x7:Int).toNat) 0 0 r2.1:=⟨_,rfl⟩
  refine TC.cut (S:=Int×Zi×(Option Addr)×Nat) (fun (ku,t_2,A_t_2,pw)=>[(9,.p0 xw),(11,.i ku)]) (fun (ku,t_2,A_t_2,pw)=>[Bk xw (Zi.k t_2 A_t_2 pw) 118,Ow A_t_2 pw 122 23 (t_2.all.map followed.c)]) (fun (ku,t_2,A_t_2,pw)=>R1=(ku,t_2)∧(t_2.all.length≤32)) ?_ ?_
  ·refine TC.block (Xp (X:=Nat×Int×Zi×(Option Addr)×Nat) (fun (k,last,t,A_t,c_t)=>[(0,.slice A_l l.length c_l),(2,.func (.func 11) #[] #[]),(9,.p0 xw),(11,.i last),(28,.i x7),(29,.i (k:Int))]) (fun (k,last,t,A_t,c_t)=>[Bk xw (Zi.k t A_t c_t) 118,Ow A_t c_t 122 23 (t.all.map followed.c)]) (fun (k,last,t,A_t,c_t)=>(x7:Int).toNat-k) (fun (k,last,t,A_t,c_t)=>k≤(x7:Int).toNat∧R1=VR l ((x7:Int).toNat-k) k last t∧(t.all.length≤32∧t.last<4*(k:Int))) ?_ (0,0,r2.1,A,c) ⟨aP _,hR,sz⟩ Kr (sb 3))
   rintro⟨k,last,t,A_t,c_t⟩ ⟨hk,hI,wx⟩
   refine Zf (Zc 1 [] [(30,.b (decide ((k:Int)<x7)))] {} (Z1 (TC.cond (decide ((k:Int)<x7)) rfl Kr (fun h2=>?_) (fun h2=>?_))))
   ·have hlt:k<(x7:Int).toNat:=by have:=of_decide_eq_true h2;first|omega|(simp at this;omega)
    have hd:(x7:Int).toNat-k=((x7:Int).toNat-(k+1))+1:=by omega
    refine Yg (TC.seq (TC.block (Zf (Zc 2 [] [(12,.i (k:Int))] {} (Zz (Zc 3 [] [(11,.i (w64 (4*(k:Int))))] {} (Zz (VI (Γ:=AN) 35 (Ya) (fun r3 g=>.slice g.1 r3.length g.2) (fun r3 g=>[Ow g.1 g.2 85 6 (r3.map Zn.c)]) (fun w _=>Wc w) {} (fun r3 hr3=>?_)))))))))
    have kr_:r3.length=2:=by rw[← hr3];rfl
    rintro⟨A_2,c_2⟩
    refine Y3 (fun w hM=>hM.short_at 0 rfl) (fun sf=>Zc 3 [] [(36,.slice A_l l.length c_l),(37,.i (w64 (4*(k:Int))))] {} (VI (Γ:=AN) 38 (ZV r3 l (w64 (4*(k:Int)))) (fun r4 g=>.tuple #[.slice g.1 r4.1.length g.2,.b r4.2]) (fun r4 g=>[Ow g.1 g.2 42 6 (r4.1.map Zj.c)]) (fun w hM=>Hn A_2 c_2 r3 A_l c_l l (w64 (4*(k:Int))) w (hM.rd_at 0 rfl) (hM.le_at 0 rfl) (h_l.sat hM) km (hT.sat hM) sg) {} (fun r4 hr4=>?_)))
    have kw_:=hs (w64 (4*(k:Int))) (by rw[Zt (by omega)];omega) (by rw[Zt (by omega)];omega);rw[hr3,hr4] at kw_
    rintro⟨A_3,c_3⟩
    refine Y3 (fun w hM=>hM.short_at 0 rfl) (fun su=>Zc 9 [] [(13,.slice A_3 r4.1.length c_3),(14,.b r4.2)] {} (Z1 (Zf (Zc 2 [] [(42,.b (!r4.2))] {} (Zb rfl (TC.cond (!r4.2) rfl Kr (fun h3=>?_) (fun h3=>?_)))))))
    ·exact((by rw[kw_.1] at h3;cases h3):False).elim
    ·refine Yg (TC.seq (Zf (Zc 2 [] [(43,.func (.func 11) #[] #[]),(44,.i (k:Int))] {} (TL.c 45 (QI (k:Int)) (fun r5=>.b r5) (fun w _=>WC (k:Int) w) {} (fun r5 hr5=>Zb rfl (TC.cond r5 rfl Kr (fun h4=>?_) (fun h4=>?_)))))))
     ·exact((by rw[← hr5] at h4;cases h4):False).elim
     ·refine Yc (Zc 3 [] [(47,.p0 xw),(48,.slice A_3 r4.1.length c_3),(49,.i (w64 (4*(k:Int))))] {} (Xm [Bk xw (Zi.k t A_t c_t) 118,Ow A_t c_t 122 23 (t.all.map followed.c),Ow A_3 c_3 42 6 (r4.1.map Zj.c),Ow A_2 c_2 85 6 (r3.map Zn.c)] (fun _ hM=>hM.perm (px [2,3,0,1])) (Be (Γ:=AN×AN) 3 50 (Zy t r4.1 (w64 (4*(k:Int)))) (fun r6 g=>.tuple #[.slice g.1.1 r6.1.length g.1.2,.i r6.2.1]) (fun r6 g=>[Bk xw (Zi.k r6.2.2 g.2.1 g.2.2) 118,Ow g.2.1 g.2.2 122 23 (r6.2.2.all.map followed.c),Ow A_3 c_3 42 6 (r4.1.map Zj.c),Ow g.1.1 g.1.2 40 13 (r6.1.map Track.c)]) [Bk xw (Zi.k t A_t c_t) 118,Ow A_t c_t 122 23 (t.all.map followed.c),Ow A_3 c_3 42 6 (r4.1.map Zj.c)] Kr (fun w hM=>Kt xw t A_t c_t A_3 c_3 r4.1 (w64 (4*(k:Int))) w hM sg) {} (fun r6 hr6=>?_))))
      have kt_:=Ph hr6 kw_.2.1 kw_.2.2 (by rw[Zt (by omega)];omega) (by rw[Zt (by omega)];omega) (by omega);rw[Zt (x:=4*(k:Int)) (by omega)] at kt_
      rintro⟨⟨A_4,c_4⟩,A_5,c_5⟩
      refine Y3 (fun w hM=>hM.short_at 1 rfl) (fun s_r6_1=>Y3 (fun w hM=>hM.short_at 3 rfl) (fun s_r6_3=>Zc 9 [] [(16,.i r6.2.1)] {} (Zz (Zc 2 [] [(54,.b (r6.2.1 != 0))] {} (Zb rfl (TC.cond (r6.2.1 != 0) rfl Kr (fun h5=>?_) (fun h5=>?_)))))))
      ·exact((by rw[kt_.1] at h5;cases h5):False).elim
      ·have uf:=(QA h5)
       exact TC.skip (ZY (Z3 (TC.region (Zc 2 [] [(29,.i (w64 ((k:Int)+1)))] {} (Zw rfl (TE.rw 29 (.i (w64 ((k:Int)+1))) (.i ((k+1:Nat):Int)) Kr (ZD k (by omega)) (Z4 (x:=(k,last,t,A_t,c_t)) (k+1,w64 (4*(k:Int)),r6.2.2,A_5,c_5) ⟨by omega,hI.trans (by subst hr1 hr2 hr3 hr4 hr5 hr6;rw[hd];exact Ze h3 (Ze h4 (Ze h5 (rfl)))),sl⟩ (mN hlt) Kr (sb 3))))))))
   ·have hd:(x7:Int).toNat-k=0:=by have:=of_decide_eq_false h2;first|omega|(simp at this;omega)
    refine TC.exit (ZT (ZT (Z0 ?_)))
    exact TE.cut (last,t,A_t,c_t) (⟨hI.trans (by subst hr1 hr2;rw[hd];exact rfl),sl⟩) Kr (sb 3)
  ·rintro⟨ku,t_2,A_t_2,pw⟩ ⟨hJ,kz⟩
   refine YC (Zc 5 [] [(6,.p0 xw),(7,.i ku),(8,.b true)] {} (Zb rfl (TC.ret ?_)))
   have e:UL l x7=(t_2,ku,true):=by subst hr1 hr2;unfold UL;exact Ze h1 (Yr (hR.symm.trans hJ) (rfl))
   rw[e]
   exact ZO (.inl rfl) (xw,(A_t_2,pw)) [] (.tuple #[.p0 xw,.i ku,.b true]) {} rfl (fun _ hM=>hM.sub (sb 3))
end Go.Sky
end
section
namespace Go.Sky
open Go Go.Eng Go.Glue Go.Srt
def CW (x:followed):Prop:=x.f.Track.State=1∧x.f.Track.Misses=0
theorem Ik (x:followed) (h:CW x):Oq x:=.inr (.inl h.1)
structure Fls (fs:List Zq):Prop where
 fly:∀ f∈fs,Jy f
 code:(fs.map fun f=>f.code).Nodup
 len:fs.length≤3
theorem Fls.perm {fs gs:List Zq} (h:Fls fs) (hp:gs.Perm fs):Fls gs:=⟨fun f hf=>h.fly f (hp.mem_iff.1 hf),(hp.map _).nodup_iff.2 h.code,by rw[hp.length_eq];exact h.len⟩
theorem MJ {fs gs:List Zq} (h:Fls fs) (hp:gs.Perm fs) {T:Nat} (hT:T≤200) :
  ∃ l,ZV Ya fs (T:Int)=(l,true)∧l.length≤6∧(∀ s∈l,OfF gs T s)∧∀ f∈gs,∃ s∈l,s.Code=f.code:=by
 obtain⟨l,l1,l2,l3,l4⟩:=Ij h.fly h.len hT
 exact⟨l,l1,l2,fun s hs=>by obtain⟨f,f1,f2⟩:=l3 s hs;exact⟨f,hp.mem_iff.2 f1,f2⟩,fun f hf=>l4 f (hp.mem_iff.1 hf)⟩
theorem Pi {fs:List Zq} (h:Fls fs) (T:Int) (h0:0≤T) (h1:T≤48):(ZV Ya fs T).2=true∧(ZV Ya fs T).1.length≤32∧Sp T (ZV Ya fs T).1:=by
 obtain⟨n,rfl⟩:∃ n:Nat,T=(n:Int):=⟨T.toNat,by omega⟩
 obtain⟨l,l1,l2,l3,_⟩:=MJ h (.refl _) (T:=n) (by omega)
 rw[l1]
 exact⟨rfl,by show l.length≤32;omega,fun s hs=>by have:=UY h.fly (by omega) (l3 s hs);exact⟨this.1,this.2.1⟩⟩
theorem Rl {fs gs:List Zq} (h:Fls fs) (hp:gs.Perm fs) {t:Zi} {t0 k:Nat} (ht:Trk gs t t0 Oq) (hl:-1≤t.last∧t.last<((4*k:Nat):Int)) (hd:t0+4≤4*k∧4*k≤t0+20) (hT:4*k≤60) :
  ∃ r:Zi,(ZV Ya fs ((4*k:Nat):Int)).2=true∧Zy t (ZV Ya fs ((4*k:Nat):Int)).1 ((4*k:Nat):Int)=(r.all.map (fun x=>x.f.Track),0,r)∧Trk gs r (4*k) CW∧r.last=((4*k:Nat):Int)∧ids r.all=ids t.all:=by
 obtain⟨l,l1,l2,l3,l4⟩:=MJ h hp (T:=4*k) (by omega)
 have g:=h.perm hp
 obtain⟨r,r1,r2,r3,r4⟩:=Ot g.fly g.code (by have:=g.len;omega) ht hl hd hT (by omega) l3 l4
 rw[l1]
 exact⟨r,rfl,r1,r2,r3,r4⟩
theorem four (k:Nat) (hk:k≤100):w64 (4*(k:Int))=((4*k:Nat):Int):=by rw[Zt (by omega)];omega
theorem Rm {fs gs:List Zq} (h:Fls fs) (hp:gs.Perm fs):∀ (m k:Nat) (t:Zi),1≤k→k+m≤15→Trk gs t (4*(k-1)) CW→t.last=((4*(k-1):Nat):Int) →
  ∃ r:Zi,VR fs m k ((4*(k-1):Nat):Int) t=(((4*(k+m-1):Nat):Int),r)∧Trk gs r (4*(k+m-1)) CW∧r.last=((4*(k+m-1):Nat):Int)∧ids r.all=ids t.all
 | 0,k,t,_,_,ht,hl=>⟨t,rfl,ht,hl,rfl⟩
 | m+1,k,t,h1,hk,ht,hl=>by
  obtain⟨r,q0,q1,q2,q3,q4⟩:=Rl h hp (k:=k) (ht.weak Ik) (by omega) (by omega) (by omega)
  obtain⟨r',e,p1,p2,p3⟩:=Rm h hp m (k+1) r (by omega) (by omega) (by rw[dJ];exact q2) (by rw[dJ];exact q3)
  rw[dJ] at e
  refine⟨r',?_,by rw[show k+(m+1)-1=k+1+m-1 by omega];exact p1,by rw[show k+(m+1)-1=k+1+m-1 by omega];exact p2,p3.trans q4⟩
  unfold VR
  simp only
  rw[four k (by omega),q0,q1]
  simp only[cD,cond_false]
  rw[show QI (k:Int)=false from rfl,show ((0:Int) != 0)=false from rfl]
  simp only[cond_false]
  rw[e,show k+(m+1)-1=k+1+m-1 by omega]
theorem Af:Y7 Yh=(⟨Yh,[],0,-1⟩,0):=by rfl
theorem Il {fs:List Zq} (h:Fls fs):∃ (r0 r:Zi) (gs:List Zq),gs.Perm fs∧(ZV Ya fs 0).2=true∧Zy ⟨Yh,[],0,-1⟩ (ZV Ya fs 0).1 0=(r0.all.map (fun x=>x.f.Track),0,r0) ∧
  (ZV Ya fs 4).2=true∧Zy r0 (ZV Ya fs 4).1 4=(r.all.map (fun x=>x.f.Track),0,r)∧Trk gs r 4 CW∧r.last=4:=by
 obtain⟨l,l1,l2,l3,l4⟩:=MJ h (.refl _) (T:=0) (by omega)
 obtain⟨r0,gs,a1,a2,a3,a4⟩:=Cd h.fly h.code (t:=⟨Yh,[],0,-1⟩) rfl (by omega) l3 l4
 obtain⟨r,q0,q1,q2,q3,q4⟩:=Rl h a2 (k:=1) (a3.weak fun x hx=>.inl hx) (by rw[a4];decide) (by decide) (by decide)
 refine⟨r0,r,gs,a2,?_,?_,q0,q1,q2,q3⟩
 ·show (ZV Ya fs ((0:Nat):Int)).2=true
  rw[l1]
 ·show Zy _ (ZV Ya fs ((0:Nat):Int)).1 0=_
  rw[l1];exact a1
theorem OZ {fs:List Zq} (h:Fls fs) {n:Nat} (hn:2≤n∧n≤15):∃ (r:Zi) (gs:List Zq),UL fs (n:Int)=(r,((4*(n-1):Nat):Int),true)∧gs.Perm fs∧Trk gs r (4*(n-1)) CW∧r.last=((4*(n-1):Nat):Int):=by
 obtain⟨r0,r1,gs,a1,a2,a3,a4,a5,a6,a7⟩:=Il h
 obtain⟨m,rfl⟩:∃ m,n=m+2:=⟨n-2,by omega⟩
 obtain⟨r,e,b1,b2,b3⟩:=Rm h a1 m 2 r1 (by decide) (by omega) a6 a7
 refine⟨r,gs,?_,a1,by rw[show m+2-1=2+m-1 by omega];exact b1,by rw[show m+2-1=2+m-1 by omega];exact b2⟩
 unfold UL
 dsimp only
 rw[Af,aO]
 dsimp only
 rw[show (((0:Int) != 0)||false)=false from rfl,cond_false]
 unfold VR
 simp only
 rw[show w64 (4*((0:Nat):Int))=0 from rfl,a2,a3]
 simp only[cD,cond_false]
 rw[show QI ((0:Nat):Int)=false from rfl,show ((0:Int) != 0)=false from rfl]
 simp only[cond_false]
 unfold VR
 simp only
 rw[show w64 (4*(((0:Nat)+1:Nat):Int))=4 from rfl,a4,a5]
 simp only[cD,cond_false]
 rw[show QI (((0:Nat)+1:Nat):Int)=false from rfl,show ((0:Int) != 0)=false from rfl]
 simp only[cond_false]
 have e2:VR fs m (0+1+1) 4 r1=(((4*(2+m-1):Nat):Int),r):=e
 rw[e2,show m+2-1=2+m-1 by omega]
 rfl
theorem TW (l:List Int):∀ (m k:Nat) (out:List Zq),k+m≤3→(∀ f∈out,f.code<100+4*(k:Int))→(out.map fun f=>f.code).Nodup→((YA l m k out).map fun f=>f.code).Nodup
 | 0,_,out,_,_,h=>h
 | m+1,k,out,hk,h1,h2=>by
  unfold YA
  dsimp only
  refine TW l m (k+1) _ (by omega) (fun f hf=>?_) ?_
  ·rcases bO.1 hf with hf|hf
   ·have:=h1 f hf;omega
   ·rw[bE.1 hf]
    show w64 (100+((4*k:Nat):Int))<_
    rw[Zt (by omega)];omega
  ·rw[eN,List.map_singleton]
   refine cX.2 ⟨h2,List.pairwise_singleton _ _,fun a ha b hb=>?_⟩
   rw[bE.1 hb]
   obtain⟨f,hf,rfl⟩:=bD.1 ha
   have:=h1 f hf
   show f.code≠w64 (100+((4*k:Nat):Int))
   rw[Zt (by omega)];omega
theorem Ea (l:List Int):Fls (Xk l):=by
 have h:=RY l
 exact⟨h.2,TW l (min (l.length/4) 3) 0 [] (by omega) (fun _ h=>nomatch h) .nil,h.1⟩
end Go.Sky
end
section
namespace Go.Sky
open Go Go.Eng Go.Proofs
def Q8 (a:P) (b_:P) (n:Int) (d:Int):P×Int :=
 cond (decide (d≤0)) (
  ((⟨0,0⟩:P),10)) (
  cond (((decide (d>200000))||(decide (n<0)))||(decide (n>d))) (
   ((⟨0,0⟩:P),4)) (
   let r1:=Yj a
   cond (r1 != 0) (
    let r2:=Yj a
    ((⟨0,0⟩:P),r2)) (
    let r3:=Yj b_
    cond (r3 != 0) (
     let r4:=Yj b_
     ((⟨0,0⟩:P),r4)) (
     let r5:=YL (w64 ((w64 (b_.X-a.X))*n)) d
     let r6:=YL (w64 ((w64 (b_.Y-a.Y))*n)) d
     ((⟨w64 (a.X+r5.1),w64 (a.Y+r6.1)⟩:P),0)))))
theorem DT (a:P) (b_:P) (n:Int) (d:Int) (w:World):Calls Tryz.prog 123 #[P.v a,P.v b_,.int .i64 n,.int .i64 d] w (Ret w (.tuple #[P.v ((Q8 a b_ n d).1),.int .i64 ((Q8 a b_ n d).2)])):=by
 refine Zp (vs:=[P.v a,P.v b_,.i n,.i d]) (w:=w) Tryz.func123 rfl Tryz.ntmps123 rfl (Zf (ZA 4 (fun b1=>.p0 b1) (fun b1=>Bk b1 (P.c a) 36) (fun b1=>{}) (fun b1=>ZA 5 (fun b2=>.p0 b2) (fun b2=>Bk b2 (P.c b_) 36) (fun b2=>{}) (fun b2=>ZA 8 (fun b3=>.p0 b3) (fun b3=>Bk b3 (P.c P.zero) 36) (fun b3=>{}) (fun b3=>Zc 4 [] [(9,.i 0)] {} (Z1 (TC.block (Zf (Zc 3 [] [(14,.b (decide (d≤0)))] {} (Zb rfl (TC.cond (decide (d≤0)) rfl Kr (fun h1=>?_) (fun h1=>?_))))))))))))
 ·refine Zf (Zc 1 [] [(17,P.v P.zero)] {} (Yp 0 (Bk b3 (P.c P.zero) 36) (fun _=>{}) (Zc 3 [] [(9,.i 10)] {} (Zb rfl (TC.ret (ZL (Zo ?_)))))))
  exact TE.ret [0] (.tuple #[P.v (⟨0,0⟩:P),.i 10]) {} (by unfold Q8;refine eS (a:=((⟨0,0⟩:P),10)) (fun (z:P×Int)=>(.tuple #[P.v z.1,.i z.2]:Value)) ?_;exact Zm h1 (rfl))
 ·refine Zf (Zc 3 [] [(21,.b (decide (d>200000)))] {} (XM 21 (decide (d>200000)) 6 [] [] (fun β=>[(24,.b (β||(decide (n<0))))]) Kr {} {} (Zc 7 [] [(25,.b ((decide (d>200000))||(decide (n<0))))] {} (XM 25 ((decide (d>200000))||(decide (n<0))) 11 [] [] (fun β=>[(29,.b (β||(decide (n>d))))]) Kr {} {} (Zc 12 [] [(18,.b (((decide (d>200000))||(decide (n<0)))||(decide (n>d))))] {} (Zb rfl (TC.cond (((decide (d>200000))||(decide (n<0)))||(decide (n>d))) rfl Kr (fun h2=>?_) (fun h2=>?_))))))))
  ·refine Zf (Zc 1 [] [(30,P.v P.zero)] {} (Yp 0 (Bk b3 (P.c P.zero) 36) (fun _=>{}) (Zc 3 [] [(9,.i 4)] {} (Zb rfl (TC.ret (ZL (Zo ?_)))))))
   exact TE.ret [0] (.tuple #[P.v (⟨0,0⟩:P),.i 4]) {} (by unfold Q8;refine eS (a:=((⟨0,0⟩:P),4)) (fun (z:P×Int)=>(.tuple #[P.v z.1,.i z.2]:Value)) ?_;exact Ze h1 (Zm h2 (rfl)))
  ·refine Zf (Zc 1 [2] [(32,P.v a)] {} (TL.c 33 (Yj a) (fun r1=>.i r1) (fun w _=>QL a w) {} (fun r1 hr1=>Zc 4 [] [(31,.b (r1 != 0))] {} (Zb rfl (TC.cond (r1 != 0) rfl Kr (fun h3=>?_) (fun h3=>?_))))))
   ·refine Zf (Zc 2 [2] [(35,P.v P.zero),(36,P.v a)] {} (TL.c 37 (Yj a) (fun r2=>.i r2) (fun w _=>QL a w) {} (fun r2 hr2=>Yp 0 (Bk b3 (P.c P.zero) 36) (fun _=>{}) (Zc 5 [] [(9,.i r2)] {} (Zb rfl (TC.ret (ZL (Zo ?_))))))))
    exact TE.ret [0] (.tuple #[P.v (⟨0,0⟩:P),.i r2]) {} (by unfold Q8;refine eS (a:=((⟨0,0⟩:P),r2)) (fun (z:P×Int)=>(.tuple #[P.v z.1,.i z.2]:Value)) ?_;subst hr1 hr2;exact Ze h1 (Ze h2 (Zm h3 (rfl))))
   ·refine Zf (Zc 1 [1] [(39,P.v b_)] {} (TL.c 40 (Yj b_) (fun r3=>.i r3) (fun w _=>QL b_ w) {} (fun r3 hr3=>Zc 4 [] [(38,.b (r3 != 0))] {} (Zb rfl (TC.cond (r3 != 0) rfl Kr (fun h4=>?_) (fun h4=>?_))))))
    ·refine Zf (Zc 2 [1] [(42,P.v P.zero),(43,P.v b_)] {} (TL.c 44 (Yj b_) (fun r4=>.i r4) (fun w _=>QL b_ w) {} (fun r4 hr4=>Yp 0 (Bk b3 (P.c P.zero) 36) (fun _=>{}) (Zc 5 [] [(9,.i r4)] {} (Zb rfl (TC.ret (ZL (Zo ?_))))))))
     exact TE.ret [0] (.tuple #[P.v (⟨0,0⟩:P),.i r4]) {} (by unfold Q8;refine eS (a:=((⟨0,0⟩:P),r4)) (fun (z:P×Int)=>(.tuple #[P.v z.1,.i z.2]:Value)) ?_;subst hr1 hr3 hr4;exact Ze h1 (Ze h2 (Ze h3 (Zm h4 (rfl)))))
    ·exact TC.skip (ZY (YC (Zc 8 [1,2] [(52,.i (w64 ((w64 (b_.X-a.X))*n))),(53,.i d)] {} (TL.c 54 (YL (w64 ((w64 (b_.X-a.X))*n)) d) (fun r5=>.tuple #[.i r5.1,.i r5.2]) (fun w _=>KT (w64 ((w64 (b_.X-a.X))*n)) d w) {} (fun r5 hr5=>Zc 14 [] [(10,.i r5.1)] {} (Zz (Zc 8 [1,2] [(64,.i (w64 ((w64 (b_.Y-a.Y))*n))),(65,.i d)] {} (TL.c 66 (YL (w64 ((w64 (b_.Y-a.Y))*n)) d) (fun r6=>.tuple #[.i r6.1,.i r6.2]) (fun w _=>KT (w64 ((w64 (b_.Y-a.Y))*n)) d w) {} (fun r6 hr6=>Zc 14 [] [(12,.i r6.1)] {} (Zz (Zc 9 [2,2] [(77,P.v (⟨w64 (a.X+r5.1),w64 (a.Y+r6.1)⟩:P))] {} (Yp 0 (Bk b3 (P.c (⟨w64 (a.X+r5.1),w64 (a.Y+r6.1)⟩:P)) 36) (fun _=>{}) (Zc 11 [] [(9,.i 0)] {} (Zb rfl (TC.ret (TE.ret [0] (.tuple #[P.v (⟨w64 (a.X+r5.1),w64 (a.Y+r6.1)⟩:P),.i 0]) {} (by unfold Q8;refine eS (a:=((⟨w64 (a.X+r5.1),w64 (a.Y+r6.1)⟩:P),0)) (fun (z:P×Int)=>(.tuple #[P.v z.1,.i z.2]:Value)) ?_;subst hr1 hr3 hr5 hr6;exact Ze h1 (Ze h2 (Ze h3 (Ze h4 (rfl)))))))))))))))))))))
def Qe (l:List Zd):List Zd→Nat→((Unit) ⊕ (Int))
 | [],_=>.inl ()
 | x::xs,k=>cond ((decide (x.Node.Time<0))||(decide (x.Node.Time>200000))) (
   .inr 12) (
   cond (decide ((k:Int)>0)) (
    cond (decide (x.Node.Time≤(((l[(k-1)]?.getD Zd.zero).Node).Time))) (
     .inr 12) (
     let r1:=Yj x.Node.At
     cond (r1 != 0) (
      .inr r1) (
      cond ((((((decide (x.Node.Height<0))||(decide (x.Node.Height>60000)))||(decide (x.Radius<0)))||(decide (x.Radius>1000000)))||(decide (x.Band<0)))||(decide (x.Band>60000))) (
       .inr 4) (
       Qe l xs (k+1))))) (
    let r2:=Yj x.Node.At
    cond (r2 != 0) (
     .inr r2) (
     cond ((((((decide (x.Node.Height<0))||(decide (x.Node.Height>60000)))||(decide (x.Radius<0)))||(decide (x.Radius>1000000)))||(decide (x.Band<0)))||(decide (x.Band>60000))) (
      .inr 4) (
      Qe l xs (k+1)))))
def YK (l:List Zd):Int :=
 cond (decide ((l.length:Int)>64)) (
  2) (
  cond ((l.length:Int)==0) (
   3) (
   Sum.elim (fun _ =>
    0) (fun r=>r) (Qe l l 0)))
set_option maxHeartbeats 4000000 in
theorem Hq (A_l:Option Addr) (c_l:Nat) (l:List Zd) (w:World) (h_l:Rd w 6 A_l (l.map Zd.c)) (_hc_l:l.length≤c_l):Calls Tryz.prog 62 #[.slice A_l l.length c_l] w (Ret w (.int .i64 (YK l))):=by
 have s_l:=h_l.short;rw[aD] at s_l
 refine Zp (vs:=[.slice A_l l.length c_l]) (w:=w) Tryz.func62 rfl Tryz.ntmps62 rfl (Zf (Zc 1 [] [(2,.i 0)] {} (Z1 (TC.block (Zf (Zc 4 [] [(6,.b (decide ((l.length:Int)>64)))] {} (Zb rfl (TC.cond (decide ((l.length:Int)>64)) rfl Kr (fun h1=>?_) (fun h1=>?_)))))))))
 ·refine Zf (Zc 1 [] [(2,.i 2)] {} (Zb rfl (TC.ret (ZL (Zo ?_)))))
  exact TE.ret [] (.i 2) {} (by unfold YK;refine eS (fun z=>(.i z:Value)) ?_;exact Zm h1 (rfl))
 ·have vm:=(Zv h1)
  refine Zf (Zc 4 [] [(10,.b ((l.length:Int)==0))] {} (Zb rfl (TC.cond ((l.length:Int)==0) rfl Kr (fun h2=>?_) (fun h2=>?_))))
  ·refine Zf (Zc 1 [] [(2,.i 3)] {} (Zb rfl (TC.ret (ZL (Zo ?_)))))
   exact TE.ret [] (.i 3) {} (by unfold YK;refine eS (fun z=>(.i z:Value)) ?_;exact Ze h1 (Zm h2 (rfl)))
  ·have k9:=(Yl h2)
   refine TC.skip (ZY (Z3 (TC.seq (Zf (Zc 3 [] [(14,.slice A_l l.length c_l),(15,.i (l.length:Int)),(16,.i 0)] {} (Zb rfl ?_))))))
   obtain⟨R1,hR⟩:∃ R,R=Qe l l 0:=⟨_,rfl⟩
   refine TC.cut (S:=Unit) (fun (_:Unit)=>[]) (fun (_:Unit)=>[]) (fun (_:Unit)=>R1=.inl ()) ?_ ?_
   ·refine TC.block (Xp (X:=Nat) (fun k=>[(0,.slice A_l l.length c_l),(14,.slice A_l l.length c_l),(15,.i (l.length:Int)),(16,.i (k:Int))]) (fun k=>[]) (fun k=>l.length-k) (fun k=>k≤l.length∧R1=Qe l (l.drop k) k) ?_ 0 ⟨aP _,hR⟩ Kr (sb 0))
    rintro k ⟨hk,hI⟩
    refine Zf (Zc 1 [] [(17,.b (decide ((k:Int)<(l.length:Int))))] {} (Z1 (TC.cond (decide ((k:Int)<(l.length:Int))) rfl Kr (fun h3=>?_) (fun h3=>?_))))
    ·have hlt:=ltN h3
     obtain⟨x,hx⟩:=elN hlt
     have hd:=drop_at hx
     refine Yg (TC.seq (TC.block (Zf (Zc 1 [] [(18,.i (k:Int))] {} (TL.v (sV (Instr.indexAt 74 (.slice A_l l.length c_l) (.i (k:Int)))) 19 (.pointer (some (Ix A_l (k*6)))) (fun w hM=>Zr (h_l.sat hM) (by simp) Kr sd sd) {} (TL.v (sV (Instr.loadAt 71 (.pointer (some (Ix A_l (k*6)))))) 20 (Zd.v x) (fun w hM=>Z9 (n:=6) (off:=0) (i:=k) (Zd.v x) (h_l.sat hM) (Z6 hx) Kr Kr Kr) {} (ZA 4 (fun b1=>.p0 b1) (fun b1=>Bk b1 (Zd.c Zd.zero) 71) (fun b1=>{}) (fun b1=>Zc 5 [] [(3,.i (k:Int))] {} (Yp 0 (Bk b1 (Zd.c x) 71) (fun _=>{}) (Z1 (TC.seq (Kx 27 Kr Kr Kr (YY 5 [0] [(25,.b (decide (x.Node.Time<0)))] {} (Zal 25 (decide (x.Node.Time<0)) 10 [] [0] (fun β=>[(30,.b (β||(decide (x.Node.Time>200000))))]) Kr {} {} (YY 11 [] [(31,.b ((decide (x.Node.Time<0))||(decide (x.Node.Time>200000))))] {} (KE 31 ((decide (x.Node.Time<0))||(decide (x.Node.Time>200000))) Kr (fun h4=>?_) (fun h4=>?_)))))))))))))))))
     ·refine YY 27 [] [(47,.b true)] {} (Q1 rfl (Xg rfl Kr (Zf (Zc 1 [] [(2,.i 12)] {} (Zb rfl (TC.ret (Zo (ZL (Zo (Zo (ZL (Zo (Zo ?_)))))))))))))
      exact TE.ret [] (.i 12) {} (by unfold YK;refine eS (fun z=>(.i z:Value)) ?_;exact Ze h1 (Ze h2 (Xh (hR.symm.trans (hI.trans (by rw[hd];exact Zm h4 (rfl)))) rfl)))
     ·have yq:=(Zv (Z2 h4))
      have ai:=(Zv (Ye h4))
      refine YY 14 [] [(34,.b (decide ((k:Int)>0)))] {} (KE 34 (decide ((k:Int)>0)) Kr (fun h5=>?_) (fun h5=>?_))
      ·have uf:=(ZF h5)
       refine YY 20 [0] [(37,.i x.Node.Time),(38,.slice A_l l.length c_l),(40,.i (w64 ((k:Int)-1)))] {} (TQ.rw 40 (.i (w64 ((k:Int)-1))) (.i ((k-1:Nat):Int)) Kr (BG k sd) (TQ.v (sV (Instr.indexAt 74 (.slice A_l l.length c_l) (.i ((k-1:Nat):Int)))) 41 (.pointer (some (Ix A_l ((k-1)*6)))) (fun w hM=>Zr (h_l.sat hM) (by simp) Kr sd sd) rfl {} (YY 23 [] [(43,.pointer (some (Ix A_l ((k-1)*6))))] {} (TQ.v (sV (Instr.loadAt 3 (.pointer (some (Ix A_l ((k-1)*6)))))) 44 (.i (((l[(k-1)]?.getD Zd.zero).Node).Time)) (fun w hM=>Zu (off:=0) (i:=(k-1)) (.i (((l[(k-1)]?.getD Zd.zero).Node).Time)) (h_l.sat hM) (Z6 (getD_at _ _ Zd.zero sd)) Kr Kr) rfl {} (YY 27 [] [(47,.b (decide (x.Node.Time≤(((l[(k-1)]?.getD Zd.zero).Node).Time))))] {} (Q1 rfl (TC.cond (decide (x.Node.Time≤(((l[(k-1)]?.getD Zd.zero).Node).Time))) rfl Kr (fun h6=>?_) (fun h6=>?_))))))))
       ·refine Zf (Zc 1 [] [(2,.i 12)] {} (Zb rfl (TC.ret (Zo (ZL (Zo (Zo (ZL (Zo (Zo ?_))))))))))
        exact TE.ret [] (.i 12) {} (by unfold YK;refine eS (fun z=>(.i z:Value)) ?_;exact Ze h1 (Ze h2 (Xh (hR.symm.trans (hI.trans (by rw[hd];exact Ze h4 (Zm h5 (Zm h6 (rfl)))))) rfl)))
       ·have y3:=(Zv h6)
        refine Yg (TC.seq (Zf (Zc 3 [0] [(50,P.v x.Node.At)] {} (TL.c 51 (Yj x.Node.At) (fun r1=>.i r1) (fun w _=>QL x.Node.At w) {} (fun r1 hr1=>Zc 5 [] [(5,.i r1)] {} (Zz (Zc 2 [] [(53,.b (r1 != 0))] {} (Zb rfl (TC.cond (r1 != 0) rfl Kr (fun h7=>?_) (fun h7=>?_))))))))))
        ·refine Zf (Zc 2 [] [(2,.i r1)] {} (Zb rfl (TC.ret (Zo (ZL (Zo (Zo (ZL (Zo (Zo ?_))))))))))
         exact TE.ret [] (.i r1) {} (by unfold YK;refine eS (fun z=>(.i z:Value)) ?_;subst hr1;exact Ze h1 (Ze h2 (Xh (hR.symm.trans (hI.trans (by rw[hd];exact Ze h4 (Zm h5 (Ze h6 (Zm h7 (rfl))))))) rfl)))
        ·have yr:=(QA h7)
         refine Yc (Zc 5 [0] [(59,.b (decide (x.Node.Height<0)))] {} (XM 59 (decide (x.Node.Height<0)) 10 [] [0] (fun β=>[(64,.b (β||(decide (x.Node.Height>60000))))]) Kr {} {} (Zc 11 [] [(65,.b ((decide (x.Node.Height<0))||(decide (x.Node.Height>60000))))] {} (XM 65 ((decide (x.Node.Height<0))||(decide (x.Node.Height>60000))) 15 [] [0] (fun β=>[(69,.b (β||(decide (x.Radius<0))))]) Kr {} {} (Zc 16 [] [(70,.b (((decide (x.Node.Height<0))||(decide (x.Node.Height>60000)))||(decide (x.Radius<0))))] {} (XM 70 (((decide (x.Node.Height<0))||(decide (x.Node.Height>60000)))||(decide (x.Radius<0))) 20 [] [0] (fun β=>[(74,.b (β||(decide (x.Radius>1000000))))]) Kr {} {} (Zc 21 [] [(75,.b ((((decide (x.Node.Height<0))||(decide (x.Node.Height>60000)))||(decide (x.Radius<0)))||(decide (x.Radius>1000000))))] {} (XM 75 ((((decide (x.Node.Height<0))||(decide (x.Node.Height>60000)))||(decide (x.Radius<0)))||(decide (x.Radius>1000000))) 25 [] [0] (fun β=>[(79,.b (β||(decide (x.Band<0))))]) Kr {} {} (Zc 26 [] [(80,.b (((((decide (x.Node.Height<0))||(decide (x.Node.Height>60000)))||(decide (x.Radius<0)))||(decide (x.Radius>1000000)))||(decide (x.Band<0))))] {} (XM 80 (((((decide (x.Node.Height<0))||(decide (x.Node.Height>60000)))||(decide (x.Radius<0)))||(decide (x.Radius>1000000)))||(decide (x.Band<0))) 30 [] [0] (fun β=>[(84,.b (β||(decide (x.Band>60000))))]) Kr {} {} (Zb rfl (TC.cond ((((((decide (x.Node.Height<0))||(decide (x.Node.Height>60000)))||(decide (x.Radius<0)))||(decide (x.Radius>1000000)))||(decide (x.Band<0)))||(decide (x.Band>60000))) rfl Kr (fun h8=>?_) (fun h8=>?_)))))))))))))
         ·refine Zf (Zc 1 [] [(2,.i 4)] {} (Zb rfl (TC.ret (ZL (Zo (Zo (ZL (Zo (Zo ?_)))))))))
          exact TE.ret [] (.i 4) {} (by unfold YK;refine eS (fun z=>(.i z:Value)) ?_;subst hr1;exact Ze h1 (Ze h2 (Xh (hR.symm.trans (hI.trans (by rw[hd];exact Ze h4 (Zm h5 (Ze h6 (Ze h7 (Zm h8 (rfl)))))))) rfl)))
         ·have fk:=(Zv (Z2 (Z2 (Z2 (Z2 (Z2 h8))))))
          have ct:=(Zv (Ye (Z2 (Z2 (Z2 (Z2 h8))))))
          have q8_2:=(Zv (Ye (Z2 (Z2 (Z2 h8)))))
          have q8_3:=(Zv (Ye (Z2 (Z2 h8))))
          have q8_4:=(Zv (Ye (Z2 h8)))
          have q8_5:=(Zv (Ye h8))
          exact TC.skip (ZY (Z3 (TC.region (Zc 2 [] [(16,.i (w64 ((k:Int)+1)))] {} (Zw rfl (TE.rw 16 (.i (w64 ((k:Int)+1))) (.i ((k+1:Nat):Int)) Kr (ZD k (by omega)) (Z4 (x:=k) (k+1) ⟨by omega,hI.trans (by subst hr1;rw[hd];exact Ze h4 (Zm h5 (Ze h6 (Ze h7 (Ze h8 (rfl))))))⟩ (mN hlt) Kr (sb 0))))))))
      ·have uf:=(Zv h5)
       refine YY 27 [] [(47,.b false)] {} (Q1 rfl (J1 rfl Kr (Yg (TC.seq (Zf (Zc 3 [0] [(50,P.v x.Node.At)] {} (TL.c 51 (Yj x.Node.At) (fun r2=>.i r2) (fun w _=>QL x.Node.At w) {} (fun r2 hr2=>Zc 5 [] [(5,.i r2)] {} (Zz (Zc 2 [] [(53,.b (r2 != 0))] {} (Zb rfl (TC.cond (r2 != 0) rfl Kr (fun h9=>?_) (fun h9=>?_)))))))))))))
       ·refine Zf (Zc 2 [] [(2,.i r2)] {} (Zb rfl (TC.ret (Zo (ZL (Zo (Zo (ZL (Zo (Zo ?_))))))))))
        exact TE.ret [] (.i r2) {} (by unfold YK;refine eS (fun z=>(.i z:Value)) ?_;subst hr2;exact Ze h1 (Ze h2 (Xh (hR.symm.trans (hI.trans (by rw[hd];exact Ze h4 (Ze h5 (Zm h9 (rfl)))))) rfl)))
       ·have dc:=(QA h9)
        refine Yc (Zc 5 [0] [(59,.b (decide (x.Node.Height<0)))] {} (XM 59 (decide (x.Node.Height<0)) 10 [] [0] (fun β=>[(64,.b (β||(decide (x.Node.Height>60000))))]) Kr {} {} (Zc 11 [] [(65,.b ((decide (x.Node.Height<0))||(decide (x.Node.Height>60000))))] {} (XM 65 ((decide (x.Node.Height<0))||(decide (x.Node.Height>60000))) 15 [] [0] (fun β=>[(69,.b (β||(decide (x.Radius<0))))]) Kr {} {} (Zc 16 [] [(70,.b (((decide (x.Node.Height<0))||(decide (x.Node.Height>60000)))||(decide (x.Radius<0))))] {} (XM 70 (((decide (x.Node.Height<0))||(decide (x.Node.Height>60000)))||(decide (x.Radius<0))) 20 [] [0] (fun β=>[(74,.b (β||(decide (x.Radius>1000000))))]) Kr {} {} (Zc 21 [] [(75,.b ((((decide (x.Node.Height<0))||(decide (x.Node.Height>60000)))||(decide (x.Radius<0)))||(decide (x.Radius>1000000))))] {} (XM 75 ((((decide (x.Node.Height<0))||(decide (x.Node.Height>60000)))||(decide (x.Radius<0)))||(decide (x.Radius>1000000))) 25 [] [0] (fun β=>[(79,.b (β||(decide (x.Band<0))))]) Kr {} {} (Zc 26 [] [(80,.b (((((decide (x.Node.Height<0))||(decide (x.Node.Height>60000)))||(decide (x.Radius<0)))||(decide (x.Radius>1000000)))||(decide (x.Band<0))))] {} (XM 80 (((((decide (x.Node.Height<0))||(decide (x.Node.Height>60000)))||(decide (x.Radius<0)))||(decide (x.Radius>1000000)))||(decide (x.Band<0))) 30 [] [0] (fun β=>[(84,.b (β||(decide (x.Band>60000))))]) Kr {} {} (Zb rfl (TC.cond ((((((decide (x.Node.Height<0))||(decide (x.Node.Height>60000)))||(decide (x.Radius<0)))||(decide (x.Radius>1000000)))||(decide (x.Band<0)))||(decide (x.Band>60000))) rfl Kr (fun h10=>?_) (fun h10=>?_)))))))))))))
        ·refine Zf (Zc 1 [] [(2,.i 4)] {} (Zb rfl (TC.ret (ZL (Zo (Zo (ZL (Zo (Zo ?_)))))))))
         exact TE.ret [] (.i 4) {} (by unfold YK;refine eS (fun z=>(.i z:Value)) ?_;subst hr2;exact Ze h1 (Ze h2 (Xh (hR.symm.trans (hI.trans (by rw[hd];exact Ze h4 (Ze h5 (Ze h9 (Zm h10 (rfl))))))) rfl)))
        ·have uy:=(Zv (Z2 (Z2 (Z2 (Z2 (Z2 h10))))))
         have q10_1:=(Zv (Ye (Z2 (Z2 (Z2 (Z2 h10))))))
         have q10_2:=(Zv (Ye (Z2 (Z2 (Z2 h10)))))
         have q10_3:=(Zv (Ye (Z2 (Z2 h10))))
         have q10_4:=(Zv (Ye (Z2 h10)))
         have q10_5:=(Zv (Ye h10))
         exact TC.skip (ZY (Z3 (TC.region (Zc 2 [] [(16,.i (w64 ((k:Int)+1)))] {} (Zw rfl (TE.rw 16 (.i (w64 ((k:Int)+1))) (.i ((k+1:Nat):Int)) Kr (ZD k (by omega)) (Z4 (x:=k) (k+1) ⟨by omega,hI.trans (by subst hr2;rw[hd];exact Ze h4 (Ze h5 (Ze h9 (Ze h10 (rfl)))))⟩ (mN hlt) Kr (sb 0))))))))
    ·have hd:=Qb h3
     refine TC.exit (ZT (ZT (Z0 ?_)))
     exact TE.cut () (hI.trans (by rw[hd];exact rfl)) Kr (sb 0)
   ·intro _ hJ
    exact YC (Zc 1 [] [(2,.i 0)] {} (Zb rfl (TC.ret (TE.ret [] (.i 0) {} (by unfold YK;refine eS (fun z=>(.i z:Value)) ?_;exact Ze h1 (Ze h2 (Q3 (hR.symm.trans hJ) (rfl))))))))
def Vh (l:List Zd):Int×Int :=
 (((l[0]?.getD Zd.zero).Node).Time,((l[(l.length-1)]?.getD Zd.zero).Node).Time)
theorem Rn (A_l:Option Addr) (c_l:Nat) (l:List Zd) (w:World) (h_l:Rd w 6 A_l (l.map Zd.c)) (_hc_l:l.length≤c_l) (h0:1≤l.length):Calls Tryz.prog 63 #[.slice A_l l.length c_l] w (Ret w (.tuple #[.int .i64 ((Vh l).1),.int .i64 ((Vh l).2)])):=by
 have s_l:=h_l.short;rw[aD] at s_l
 exact Zp (vs:=[.slice A_l l.length c_l]) (w:=w) Tryz.func63 rfl Tryz.ntmps63 rfl (Zf (Zc 2 [] [(2,.i 0),(3,.i 0)] {} (Z1 (Kx 15 Kr Kr Kr (YY 1 [] [(4,.slice A_l l.length c_l)] {} (TQ.v (sV (Instr.indexAt 74 (.slice A_l l.length c_l) (.i 0))) 5 (.pointer (some (Ix A_l (0*6)))) (fun w hM=>Zr (h_l.sat hM) (by simp) Kr sd sd) rfl {} (YY 4 [] [(7,.pointer (some (Ix A_l (0*6))))] {} (TQ.v (sV (Instr.loadAt 3 (.pointer (some (Ix A_l (0*6)))))) 8 (.i (((l[0]?.getD Zd.zero).Node).Time)) (fun w hM=>Zu (off:=0) (i:=0) (.i (((l[0]?.getD Zd.zero).Node).Time)) (h_l.sat hM) (Z6 (getD_at _ _ Zd.zero sd)) Kr Kr) rfl {} (YY 9 [] [(9,.slice A_l l.length c_l),(12,.i (w64 ((l.length:Int)-1)))] {} (TQ.rw 12 (.i (w64 ((l.length:Int)-1))) (.i ((l.length-1:Nat):Int)) Kr (BG l.length sd) (TQ.v (sV (Instr.indexAt 74 (.slice A_l l.length c_l) (.i ((l.length-1:Nat):Int)))) 13 (.pointer (some (Ix A_l ((l.length-1)*6)))) (fun w hM=>Zr (h_l.sat hM) (by simp) Kr sd sd) rfl {} (YY 12 [] [(15,.pointer (some (Ix A_l ((l.length-1)*6))))] {} (TQ.v (sV (Instr.loadAt 3 (.pointer (some (Ix A_l ((l.length-1)*6)))))) 16 (.i (((l[(l.length-1)]?.getD Zd.zero).Node).Time)) (fun w hM=>Zu (off:=0) (i:=(l.length-1)) (.i (((l[(l.length-1)]?.getD Zd.zero).Node).Time)) (h_l.sat hM) (Z6 (getD_at _ _ Zd.zero sd)) Kr Kr) rfl {} (YY 15 [] [(2,.i (((l[0]?.getD Zd.zero).Node).Time)),(3,.i (((l[(l.length-1)]?.getD Zd.zero).Node).Time))] {} (Q1 rfl (TC.ret (TE.ret [] (.tuple #[.i (((l[0]?.getD Zd.zero).Node).Time),.i (((l[(l.length-1)]?.getD Zd.zero).Node).Time)]) {} (by unfold Vh;refine eS (a:=(((l[0]?.getD Zd.zero).Node).Time,((l[(l.length-1)]?.getD Zd.zero).Node).Time)) (fun (z:Int×Int)=>(.tuple #[.i z.1,.i z.2]:Value)) ?_;exact rfl))))))))))))))))))
def J9 (n:Zd) (t:Int):Int :=
 w64 (n.Node.Time-t)
theorem Ba (n:Zd) (t:Int) (w:World):Calls Tryz.prog 122 #[Zd.v n,.int .i64 t] w (Ret w (.int .i64 (J9 n t))):=by
 exact Zp (vs:=[Zd.v n,.i t]) (w:=w) Tryz.func122 rfl Tryz.ntmps122 rfl (Zf (ZA 2 (fun b1=>.p0 b1) (fun b1=>Bk b1 (Zd.c n) 71) (fun b1=>{}) (fun b1=>Zc 2 [] [(4,.i 0)] {} (Zz (Zc 6 [0] [(4,.i (w64 (n.Node.Time-t)))] {} (Zb rfl (TC.ret (TE.ret [] (.i (w64 (n.Node.Time-t))) {} (by unfold J9;refine eS (fun z=>(.i z:Value)) ?_;exact rfl)))))))))
def Xd (x:List Zd) (target:Int):Nat→Int→Int→Option Int
 | 0,_,_=>none
 | m+1,i,j=>cond (decide (i<j)) (
   let r1:=J9 (x[(w64 ((YI (w64 (i+j))).fdiv (2 ^ 1))).toNat]?.getD Zd.zero) target
   cond (decide (r1<0)) (
    Xd x target m (w64 ((w64 ((YI (w64 (i+j))).fdiv (2 ^ 1)))+1)) j) (
    Xd x target m i (w64 ((YI (w64 (i+j))).fdiv (2 ^ 1))))) (
   some (i))
def Xy (x:List Zd) (target:Int):Int×Bool :=
 YB ((Xd x target (x.length+1) 0 (x.length:Int)).getD 0) (fun i_2 =>
  cond (decide (i_2<(x.length:Int))) (
   let r2:=J9 (x[i_2.toNat]?.getD Zd.zero) target
   (i_2,r2==0)) (
   (i_2,false)))
theorem GE {i j:Int} {n:Nat} (h:0≤i∧i≤j∧j≤(n:Int)) (hlt:i<j) (hn:n<4611686018427387904):w64 ((YI (w64 (i+j))).fdiv (2 ^ 1))=(i+j)/2∧0≤(i+j)/2∧i≤(i+j)/2∧(i+j)/2<j∧w64 (w64 ((YI (w64 (i+j))).fdiv (2 ^ 1))+1)=(i+j)/2+1:=by
 have e1:w64 (i+j)=i+j:=Zt (by omega)
 have e2:YI (i+j)=i+j:=IntWalk.u64_in _ (by omega)
 have e3:(i+j).fdiv (2 ^ 1)=(i+j)/2:=Int.fdiv_eq_ediv_of_nonneg _ (by decide)
 rw[e1,e2,e3,Zt (x:=(i+j)/2) (by omega),Zt (x:=(i+j)/2+1) (by omega)]
 omega
theorem DU (x:List Zd) (target:Int) (hn:x.length<4611686018427387904):∀ (m:Nat) (i j:Int),0≤i∧i≤j∧j≤(x.length:Int)∧j-i<(m:Int)→∃ R,Xd x target m i j=some R
 | 0,i,j,h=>by omega
 | m+1,i,j,h=>by
  unfold Xd
  by_cases hk:i<j
  ·have u:=GE (n:=x.length) ⟨h.1,h.2.1,h.2.2.1⟩ hk hn
   rw[decide_eq_true hk,cond_true,u.2.2.2.2,u.1]
   show ∃ R,cond (decide (J9 (x[((i+j)/2).toNat]?.getD Zd.zero) target<0)) _ _=some R
   cases decide (J9 (x[((i+j)/2).toNat]?.getD Zd.zero) target<0)
   ·exact DU x target hn m i ((i+j)/2) (by omega)
   ·exact DU x target hn m ((i+j)/2+1) j (by omega)
  ·rw[decide_eq_false hk];exact⟨i,rfl⟩
theorem Wi (A_x:Option Addr) (c_x:Nat) (x:List Zd) (target:Int) (w:World) (h_x:Rd w 6 A_x (x.map Zd.c)) (_hc_x:x.length≤c_x):Calls Tryz.prog 121 #[.slice A_x x.length c_x,.int .i64 target,.func (.func 122) #[] #[]] w (Ret w (.tuple #[.int .i64 ((Xy x target).1),.bool ((Xy x target).2)])):=by
 have s_x:=h_x.short;rw[aD] at s_x
 refine Zp (vs:=[.slice A_x x.length c_x,.i target,.func (.func 122) #[] #[]]) (w:=w) Tryz.func121 rfl Tryz.ntmps121 rfl (Zf (Zc 2 [] [(6,.i 0),(7,.b false)] {} (Zz (Zc 3 [] [(8,.i (x.length:Int))] {} (Zz (Zc 3 [] [(9,.i 0),(10,.i (x.length:Int))] {} (Z1 ?_)))))))
 obtain⟨R1,hR⟩:∃ R,Xd x target (x.length+1) 0 (x.length:Int)=some R:=DU x target (by omega) (x.length+1) 0 (x.length:Int) (by omega)
 refine TC.cut (S:=Int) (fun i_2=>[(0,.slice A_x x.length c_x),(1,.i target),(2,.func (.func 122) #[] #[]),(8,.i (x.length:Int)),(9,.i i_2)]) (fun i_2=>[]) (fun i_2=>R1=i_2∧(0≤i_2∧i_2≤(x.length:Int))) ?_ ?_
 ·refine TC.block (Xp (X:=Nat×Int×Int) (fun (m,i,j)=>[(0,.slice A_x x.length c_x),(1,.i target),(2,.func (.func 122) #[] #[]),(8,.i (x.length:Int)),(9,.i i),(10,.i j)]) (fun (m,i,j)=>[]) (fun (m,i,j)=>m) (fun (m,i,j)=>m≤(x.length+1)∧Xd x target m i j=some R1∧(0≤i∧i≤j∧j≤(x.length:Int))) ?_ (x.length+1,0,(x.length:Int)) ⟨aU _,hR,sz⟩ Kr (sb 0))
  rintro⟨m,i,j⟩ ⟨hk,hI,wx⟩
  rcases m with _|m
  ·cases hI
  refine TC.seq (Zf (Zc 3 [] [(17,.b (decide (i<j)))] {} (Zb rfl (TC.cond (decide (i<j)) rfl Kr (fun h1=>?_) (fun h1=>?_)))))
  ·have vm:=(ZF h1)
   refine Yg (TC.block (Zf (Zc 7 [] [(11,.i (w64 ((YI (w64 (i+j))).fdiv (2 ^ 1))))] {} (Zz (Zc 3 [] [(24,.func (.func 122) #[] #[]),(25,.slice A_x x.length c_x),(26,.i (w64 ((YI (w64 (i+j))).fdiv (2 ^ 1))))] {} (TL.v (sV (Instr.indexAt 74 (.slice A_x x.length c_x) (.i (w64 ((YI (w64 (i+j))).fdiv (2 ^ 1)))))) 27 (.pointer (some ((A_x.getD Yz).add ((w64 ((YI (w64 (i+j))).fdiv (2 ^ 1))).toNat*6)))) (fun w hM=>Zr (h_x.sat hM) (by simp) Kr (by (try have um_:=GE wx (ZF h1) (by omega));exact sd) (by (try have um_:=GE wx (ZF h1) (by omega));exact sd)) {} (TL.v (sV (Instr.loadAt 71 (.pointer (some ((A_x.getD Yz).add ((w64 ((YI (w64 (i+j))).fdiv (2 ^ 1))).toNat*6)))))) 28 (Zd.v (x[(w64 ((YI (w64 (i+j))).fdiv (2 ^ 1))).toNat]?.getD Zd.zero)) (fun w hM=>Z9 (n:=6) (off:=0) (i:=(w64 ((YI (w64 (i+j))).fdiv (2 ^ 1))).toNat) (Zd.v (x[(w64 ((YI (w64 (i+j))).fdiv (2 ^ 1))).toNat]?.getD Zd.zero)) (h_x.sat hM) (Z6 (getD_at _ _ Zd.zero (by (try have um_:=GE wx (ZF h1) (by omega));exact sd))) Kr Kr Kr) {} (Zc 6 [] [(29,.i target)] {} (TL.c 30 (J9 (x[(w64 ((YI (w64 (i+j))).fdiv (2 ^ 1))).toNat]?.getD Zd.zero) target) (fun r1=>.i r1) (fun w _=>Ba (x[(w64 ((YI (w64 (i+j))).fdiv (2 ^ 1))).toNat]?.getD Zd.zero) target w) {} (fun r1 hr1=>Zc 8 [] [(31,.b (decide (r1<0)))] {} (Zb rfl (TC.cond (decide (r1<0)) rfl Kr (fun h2=>?_) (fun h2=>?_)))))))))))))
   ·have k9:=(ZF h2)
    exact TC.region (Zc 3 [] [(9,.i (w64 ((w64 ((YI (w64 (i+j))).fdiv (2 ^ 1)))+1)))] {} (Zw rfl (ZY (Z4 (x:=(m+1,i,j)) (m,w64 ((w64 ((YI (w64 (i+j))).fdiv (2 ^ 1)))+1),j) ⟨by omega,(by subst hr1;refine Eq.trans (Eq.symm ?_) hI;exact Zm h1 (Zm h2 (rfl))),(by (try have um_:=GE wx (ZF h1) (by omega));exact sl)⟩ (cY _) Kr (sb 0)))))
   ·have k9:=(Zv h2)
    exact TC.region (Zc 2 [] [(10,.i (w64 ((YI (w64 (i+j))).fdiv (2 ^ 1))))] {} (Zw rfl (ZY (Z4 (x:=(m+1,i,j)) (m,i,w64 ((YI (w64 (i+j))).fdiv (2 ^ 1))) ⟨by omega,(by subst hr1;refine Eq.trans (Eq.symm ?_) hI;exact Zm h1 (Ze h2 (rfl))),(by (try have um_:=GE wx (ZF h1) (by omega));exact sl)⟩ (cY _) Kr (sb 0)))))
  ·have vm:=(Zv h1)
   refine TC.exit (ZT (ZT (Z0 ?_)))
   exact TE.cut i (⟨cT (hI.symm.trans (by exact Ze h1 (rfl))),(by (try have um_:=GE wx (ZF h1) (by omega));exact sl)⟩) Kr (sb 0)
 ·rintro i_2 ⟨hJ,kz⟩
  refine YC (Zc 5 [] [(35,.i i_2),(39,.b (decide (i_2<(x.length:Int))))] {} (Yy 39 (decide (i_2<(x.length:Int))) Kr (fun h3=>?_) (fun h3=>?_)))
  ·have y2:=(ZF h3)
   exact Zc 8 [] [(40,.func (.func 122) #[] #[]),(41,.slice A_x x.length c_x),(42,.i i_2)] {} (TL.v (sV (Instr.indexAt 74 (.slice A_x x.length c_x) (.i i_2))) 43 (.pointer (some (Ix A_x (i_2.toNat*6)))) (fun w hM=>Zr (h_x.sat hM) (by simp) Kr sd sd) {} (TL.v (sV (Instr.loadAt 71 (.pointer (some (Ix A_x (i_2.toNat*6)))))) 44 (Zd.v (x[i_2.toNat]?.getD Zd.zero)) (fun w hM=>Z9 (n:=6) (off:=0) (i:=i_2.toNat) (Zd.v (x[i_2.toNat]?.getD Zd.zero)) (h_x.sat hM) (Z6 (getD_at _ _ Zd.zero sd)) Kr Kr Kr) {} (Zc 11 [] [(45,.i target)] {} (TL.c 46 (J9 (x[i_2.toNat]?.getD Zd.zero) target) (fun r2=>.i r2) (fun w _=>Ba (x[i_2.toNat]?.getD Zd.zero) target w) {} (fun r2 hr2=>Zc 16 [] [(6,.i i_2),(7,.b (r2==0))] {} (Zb rfl (TC.ret (TE.ret [] (.tuple #[.i i_2,.b (r2==0)]) {} (by unfold Xy;refine eS (a:=(i_2,r2==0)) (fun (z:Int×Bool)=>(.tuple #[.i z.1,.b z.2]:Value)) ?_;subst hr2;exact Yr ((congrArg (Option.getD · _) hR).trans hJ) (Zm h3 (rfl)))))))))))
  ·exact Zc 16 [] [(6,.i i_2),(7,.b false)] {} (Zb rfl (TC.ret (TE.ret [] (.tuple #[.i i_2,.b false]) {} (by unfold Xy;refine eS (a:=(i_2,false)) (fun (z:Int×Bool)=>(.tuple #[.i z.1,.b z.2]:Value)) ?_;exact Yr ((congrArg (Option.getD · _) hR).trans hJ) (Ze h3 (rfl))))))
end Go.Sky
end
section
namespace Go.Sky
open Go Go.Eng Go.Glue
abbrev nd (l:List Zd) (k:Nat):Zd:=l[k]?.getD Zd.zero
def Zd.In (n:Zd):Prop:=(0≤n.Node.Time∧n.Node.Time≤200000)∧n.Node.At.In∧(0≤n.Node.Height∧n.Node.Height≤60000)∧(0≤n.Radius∧n.Radius≤1000000)∧(0≤n.Band∧n.Band≤60000)
def WE (l:List Zd):Prop:=(1≤l.length∧l.length≤64)∧(∀ k,k<l.length→(nd l k).In)∧(∀ k,k+1<l.length→(nd l k).Node.Time<(nd l (k+1)).Node.Time)
theorem TX (l:List Zd):∀ (xs:List Zd) (k:Nat),xs=l.drop k→Sum.elim (fun _=>(0:Int)) (fun r=>r) (Qe l xs k)=0 →
  (∀ j,k≤j→j<l.length→(nd l j).In)∧(∀ j,k≤j→1≤j→j<l.length→(nd l (j-1)).Node.Time<(nd l j).Node.Time)
 | [],k,hx,_=>by
  have hl:l.length≤k:=by
   have:=congrArg List.length hx
   rw[aH] at this
   simp at this;omega
  exact⟨fun j h1 h2=>by omega,fun j h1 _ h2=>by omega⟩
 | x::xs,k,hx,h=>by
  have hk:l[k]?=some x:=by
   have:=congrArg (fun z=>z[0]?) hx
   simpa using this.symm
  have hn:nd l k=x:=by unfold nd;rw[hk];rfl
  have hxs:xs=l.drop (k+1):=by
   have:=congrArg (List.drop 1) hx
   simpa[List.drop_drop,Nat.add_comm] using this
  unfold Qe at h
  have fin:x.In→(1≤k→(nd l (k-1)).Node.Time<x.Node.Time)→Sum.elim (fun _=>(0:Int)) (fun r=>r) (Qe l xs (k+1))=0 →
    (∀ j,k≤j→j<l.length→(nd l j).In)∧(∀ j,k≤j→1≤j→j<l.length→(nd l (j-1)).Node.Time<(nd l j).Node.Time):=by
   intro g1 g2 g3
   obtain⟨r1,r2⟩:=TX l xs (k+1) hxs g3
   refine⟨fun j h1 h2=>?_,fun j h1 h3 h2=>?_⟩
   ·by_cases e:j=k
    ·subst e;rw[hn];exact g1
    ·exact r1 j (by omega) h2
   ·by_cases e:j=k
    ·subst e;rw[hn];exact g2 h3
    ·exact r2 j (by omega) h3 h2
  simp only[XD] at h
  by_cases c1:(decide (x.Node.Time<0)||decide (x.Node.Time>200000))=true
  ·rw[if_pos c1] at h;simp at h
  ·rw[if_neg c1] at h
   simp at c1
   have inn:Yj x.Node.At=0→¬ (((((decide (x.Node.Height<0)||decide (x.Node.Height>60000))||decide (x.Radius<0))||decide (x.Radius>1000000))||decide (x.Band<0))||decide (x.Band>60000))=true→x.In:=by
    intro e1 e2
    simp at e2
    exact⟨by omega,RF.1 e1,by omega,by omega,by omega⟩
   by_cases c2:decide ((k:Int)>0)=true
   ·rw[if_pos c2] at h
    by_cases c3:decide (x.Node.Time≤((l[(k-1)]?.getD Zd.zero).Node).Time)=true
    ·rw[if_pos c3] at h;simp at h
    ·rw[if_neg c3] at h
     simp at c3
     by_cases c4:Yj x.Node.At=0
     ·rw[if_neg (by simp[c4])] at h
      by_cases c5:(((((decide (x.Node.Height<0)||decide (x.Node.Height>60000))||decide (x.Radius<0))||decide (x.Radius>1000000))||decide (x.Band<0))||decide (x.Band>60000))=true
      ·rw[if_pos c5] at h;simp at h
      ·rw[if_neg c5] at h
       exact fin (inn c4 c5) (fun _=>by show ((l[(k-1)]?.getD Zd.zero).Node).Time<x.Node.Time;omega) h
     ·rw[if_pos (by simpa using c4)] at h;simp at h;exact absurd h c4
   ·rw[if_neg c2] at h
    simp at c2
    by_cases c4:Yj x.Node.At=0
    ·rw[if_neg (by simp[c4])] at h
     by_cases c5:(((((decide (x.Node.Height<0)||decide (x.Node.Height>60000))||decide (x.Radius<0))||decide (x.Radius>1000000))||decide (x.Band<0))||decide (x.Band>60000))=true
     ·rw[if_pos c5] at h;simp at h
     ·rw[if_neg c5] at h
      exact fin (inn c4 c5) (fun hk=>by omega) h
    ·rw[if_pos (by simpa using c4)] at h;simp at h;exact absurd h c4
theorem TY {l:List Zd} (h:YK l=0):WE l:=by
 unfold YK at h
 by_cases h1:(l.length:Int)>64
 ·rw[decide_eq_true h1] at h;cases h
 ·rw[decide_eq_false h1,cond_false] at h
  by_cases h2:(l.length:Int)=0
  ·have e:((l.length:Int)==0)=true:=by simpa using h2
   rw[e] at h;cases h
  ·have e:((l.length:Int)==0)=false:=by simpa using h2
   rw[e,cond_false] at h
   obtain⟨g1,g2⟩:=TX l l 0 rfl h
   exact⟨by omega,fun k hk=>g1 k (aP _) hk,fun k hk=>g2 (k+1) (aP _) (by omega) hk⟩
theorem Eb {l:List Zd} {r:Int} (hr:YK l=r) (h:(r != 0)=false):1≤l.length:=by
 subst hr;exact(TY (by simpa using h)).1.1
theorem Nc {l:List Zd} (h:WE l) {i j:Nat} (hij:i<j) (hj:j<l.length):(nd l i).Node.Time<(nd l j).Node.Time:=by
 induction j with
 | zero=>omega
 | succ j ih =>
  have hs:=h.2.2 j hj
  by_cases e:i=j
  ·subst e;exact hs
  ·exact Int.lt_trans (ih (by omega) (by omega)) hs
def MK (l:List Zd) (t:Int):Prop:=(nd l 0).Node.Time≤t∧t≤(nd l (l.length-1)).Node.Time
theorem Ec {l:List Zd} (h:WE l) {t:Int} (ht:0≤t∧t≤200000):∀ (m:Nat) (i j:Int),0≤i∧i≤j∧j≤(l.length:Int)∧j-i<(m:Int) →
  (∀ k:Nat,(k:Int)<i→(nd l k).Node.Time<t)→(∀ k:Nat,j≤(k:Int)→k<l.length→t≤(nd l k).Node.Time) →
  ∃ R:Nat,Xd l t m i j=some (R:Int)∧R≤l.length∧(∀ k:Nat,k<R→(nd l k).Node.Time<t)∧(∀ k:Nat,R≤k→k<l.length→t≤(nd l k).Node.Time)
 | 0,i,j,hm,_,_=>by omega
 | m+1,i,j,hm,hlo,hhi=>by
  have hlen:=h.1.2
  unfold Xd
  by_cases hk:i<j
  ·have u:=GE (n:=l.length) ⟨hm.1,hm.2.1,hm.2.2.1⟩ hk (by omega)
   rw[decide_eq_true hk,cond_true,u.2.2.2.2,u.1]
   obtain⟨c,hc⟩:∃ c:Nat,(i+j)/2=(c:Int):=⟨((i+j)/2).toNat,by omega⟩
   rw[hc] at u ⊢
   have hcl:c<l.length:=by omega
   have hin:=h.2.1 c hcl
   have ht1:=hin.1
   have e1:J9 (l[(c:Int).toNat]?.getD Zd.zero) t=(nd l c).Node.Time-t:=by
    show w64 ((nd l (c:Int).toNat).Node.Time-t)=_
    rw[show (c:Int).toNat=c by omega,Zt (by omega)]
   show ∃ R:Nat,cond (decide (J9 (l[(c:Int).toNat]?.getD Zd.zero) t<0)) _ _=_∧_
   rw[e1]
   by_cases hlt:(nd l c).Node.Time-t<0
   ·rw[decide_eq_true hlt,cond_true]
    refine Ec h ht m ((c:Int)+1) j (by omega) (fun k hk=>?_) hhi
    by_cases e:k=c
    ·subst e;omega
    ·have:=Nc h (i:=k) (j:=c) (by omega) hcl;omega
   ·rw[decide_eq_false hlt,cond_false]
    refine Ec h ht m i (c:Int) (by omega) hlo (fun k hk hk2=>?_)
    by_cases e:k=c
    ·subst e;omega
    ·have:=Nc h (i:=c) (j:=k) (by omega) hk2;omega
  ·rw[decide_eq_false hk,cond_false]
   refine⟨i.toNat,by rw[bN hm.1],by omega,fun k hk=>hlo k (by omega),fun k h1 h2=>hhi k (by omega) h2⟩
theorem Zah {l:List Zd} (h:WE l) {t:Int} (ht:MK l t):∃ R:Nat,R<l.length∧Xy l t=((R:Int),decide ((nd l R).Node.Time=t))∧((nd l R).Node.Time=t∨1≤R∧(nd l (R-1)).Node.Time<t∧t<(nd l R).Node.Time):=by
 have hlen:=h.1
 have t0:=(h.2.1 0 (by omega)).1
 have t1:=(h.2.1 (l.length-1) (by omega)).1
 have ht':0≤t∧t≤200000:=⟨by have:=ht.1;omega,by have:=ht.2;omega⟩
 obtain⟨R,g1,g2,g3,g4⟩:=Ec h ht' (l.length+1) 0 (l.length:Int) (by omega) (fun k hk=>by omega) (fun k hk hk2=>by omega)
 have hR:R<l.length:=by
  rcases gE R l.length with g|g
  ·exact g
  ·have:=g3 (l.length-1) (by omega)
   have:=ht.2
   omega
 refine⟨R,hR,?_,?_⟩
 ·unfold Xy
  rw[g1]
  show cond (decide ((R:Int)<(l.length:Int))) ((R:Int),J9 (l[(R:Int).toNat]?.getD Zd.zero) t==0) ((R:Int),false)=_
  have e1:decide ((R:Int)<(l.length:Int))=true:=by simp;omega
  have tR:=(h.2.1 R hR).1
  have e2:J9 (l[(R:Int).toNat]?.getD Zd.zero) t=(nd l R).Node.Time-t:=by
   show w64 ((nd l (R:Int).toNat).Node.Time-t)=_
   rw[show (R:Int).toNat=R by omega,Zt (by omega)]
  rw[e1,cond_true,e2]
  congr 1
  rw[bJ]
  simp only[beq_iff_eq,decide_eq_true_eq]
  omega
 ·have a1:=g4 R (aU _) hR
  by_cases e:(nd l R).Node.Time=t
  ·exact .inl e
  ·rcases R with _|R
   ·have:=ht.1;omega
   ·exact .inr ⟨by omega,g3 R (by omega),by omega⟩
theorem Hr {l:List Zd} {t:Int} {r:Int×Bool} (h:WE l∧MK l t) (hr:Xy l t=r):(0≤r.1∧r.1<(l.length:Int)∧r.1.toNat<l.length)∧(r.2=false→1≤r.1∧w64 (r.1-1)=r.1-1∧(w64 (r.1-1)).toNat<l.length):=by
 obtain⟨R,g1,g2,g3⟩:=Zah h.1 h.2
 have hl:=h.1.1
 rw[← hr,g2]
 refine⟨by simp only;omega,fun hf=>?_⟩
 simp only[decide_eq_false_iff_not] at hf
 have g4:=g3.resolve_left hf
 simp only
 rw[Zt (by omega)]
 omega
theorem Im {l:List Zd} {t:Int} {r2:Int×Int} {r1:Int} (hr1:YK l=r1) (h1:(r1 != 0)=false) (hr2:Vh l=r2) (h2:((decide (t<r2.1))||(decide (t>r2.2)))=false):WE l∧MK l t:=by
 subst hr1 hr2
 refine⟨TY (by simpa using h1),?_⟩
 unfold Vh at h2
 simp at h2
 exact h2
end Go.Sky
end
section
namespace Go.Sky
open Go Go.Eng Go.Proofs
def GW (l:List Zd) (t:Int):Zd :=
 let r1:=Xy l t
 cond r1.2 (
  (l[r1.1.toNat]?.getD Zd.zero)) (
  let r2:=Q8 (((l[(w64 (r1.1-1)).toNat]?.getD Zd.zero).Node).At) (((l[r1.1.toNat]?.getD Zd.zero).Node).At) (w64 (t-(((l[(w64 (r1.1-1)).toNat]?.getD Zd.zero).Node).Time))) (w64 ((((l[r1.1.toNat]?.getD Zd.zero).Node).Time)-(((l[(w64 (r1.1-1)).toNat]?.getD Zd.zero).Node).Time)))
  let r3:=w64 ((w64 ((((l[r1.1.toNat]?.getD Zd.zero).Node).Height)-(((l[(w64 (r1.1-1)).toNat]?.getD Zd.zero).Node).Height)))*(w64 (t-(((l[(w64 (r1.1-1)).toNat]?.getD Zd.zero).Node).Time))))
  let r4:=YL r3 (w64 ((((l[r1.1.toNat]?.getD Zd.zero).Node).Time)-(((l[(w64 (r1.1-1)).toNat]?.getD Zd.zero).Node).Time)))
  let r5:=X1 (w64 ((w64 (((l[r1.1.toNat]?.getD Zd.zero).Radius)-((l[(w64 (r1.1-1)).toNat]?.getD Zd.zero).Radius)))*(w64 (t-(((l[(w64 (r1.1-1)).toNat]?.getD Zd.zero).Node).Time))))) (w64 ((((l[r1.1.toNat]?.getD Zd.zero).Node).Time)-(((l[(w64 (r1.1-1)).toNat]?.getD Zd.zero).Node).Time)))
  let r6:=X1 (w64 ((w64 (((l[r1.1.toNat]?.getD Zd.zero).Band)-((l[(w64 (r1.1-1)).toNat]?.getD Zd.zero).Band)))*(w64 (t-(((l[(w64 (r1.1-1)).toNat]?.getD Zd.zero).Node).Time))))) (w64 ((((l[r1.1.toNat]?.getD Zd.zero).Node).Time)-(((l[(w64 (r1.1-1)).toNat]?.getD Zd.zero).Node).Time)))
  (⟨⟨t,r2.1,w64 ((((l[(w64 (r1.1-1)).toNat]?.getD Zd.zero).Node).Height)+r4.1)⟩,w64 (((l[(w64 (r1.1-1)).toNat]?.getD Zd.zero).Radius)+r5.1),w64 (((l[(w64 (r1.1-1)).toNat]?.getD Zd.zero).Band)+r6.1)⟩:Zd))
theorem Pj (A_l:Option Addr) (c_l:Nat) (l:List Zd) (t:Int) (w:World) (h_l:Rd w 6 A_l (l.map Zd.c)) (km:l.length≤c_l) (hok:WE l∧MK l t):Calls Tryz.prog 64 #[.slice A_l l.length c_l,.int .i64 t] w (Ret w (Zd.v (GW l t))):=by
 have s_l:=h_l.short;rw[aD] at s_l
 refine Zp (vs:=[.slice A_l l.length c_l,.i t]) (w:=w) Tryz.func64 rfl Tryz.ntmps64 rfl (Zf (ZA 4 (fun b1=>.p0 b1) (fun b1=>Bk b1 (Zd.c Zd.zero) 71) (fun b1=>{}) (fun b1=>Zz (Zc 2 [] [(20,.slice A_l l.length c_l),(21,.i t)] {} (TL.c 22 (Xy l t) (fun r1=>.tuple #[.i r1.1,.b r1.2]) (fun w hM=>Wi A_l c_l l t w (h_l.sat hM) km) {} (fun r1 hr1=>Zc 8 [] [(5,.i r1.1),(6,.b r1.2)] {} (Z1 (Zf (Zc 1 [] [(25,.b r1.2)] {} (Zb rfl (TC.cond r1.2 rfl Kr (fun h1=>?_) (fun h1=>?_))))))))))))
 ·exact Zf (Zc 2 [] [(26,.slice A_l l.length c_l),(27,.i r1.1)] {} (TL.v (sV (Instr.indexAt 74 (.slice A_l l.length c_l) (.i r1.1))) 28 (.pointer (some (Ix A_l (r1.1.toNat*6)))) (fun w hM=>Zr (h_l.sat hM) (by simp) Kr (by have u_:=Hr hok hr1;omega) (by have u_:=Hr hok hr1;omega)) {} (TL.v (sV (Instr.loadAt 71 (.pointer (some (Ix A_l (r1.1.toNat*6)))))) 29 (Zd.v (l[r1.1.toNat]?.getD Zd.zero)) (fun w hM=>Z9 (n:=6) (off:=0) (i:=r1.1.toNat) (Zd.v (l[r1.1.toNat]?.getD Zd.zero)) (h_l.sat hM) (Z6 (getD_at _ _ Zd.zero (by have u_:=Hr hok hr1;omega))) Kr Kr Kr) {} (Yp 0 (Bk b1 (Zd.c (l[r1.1.toNat]?.getD Zd.zero)) 71) (fun _=>{}) (Zb rfl (TC.ret (Zo (TE.ret [0] (Zd.v (l[r1.1.toNat]?.getD Zd.zero)) {} (by unfold GW;refine eS (fun z=>(Zd.v z:Value)) ?_;subst hr1;exact Zm h1 (rfl))))))))))
 ·refine Yg (TC.seq ?_)
  let Mr4_:Mem:=[Bk b1 (Zd.c Zd.zero) 71]
  refine Jm (G:=Nat×Nat) (base:=[(0,.slice A_l l.length c_l),(1,.i t),(4,.p0 b1),(5,.i r1.1)]) (vals:=fun γ=>[.slice A_l l.length c_l,.i r1.1,.i (w64 (r1.1-1)),.pointer (some ((A_l.getD Yz).add ((w64 (r1.1-1)).toNat*6))),Zd.v (l[(w64 (r1.1-1)).toNat]?.getD Zd.zero),.slice A_l l.length c_l,.i r1.1,.pointer (some (Ix A_l (r1.1.toNat*6))),Zd.v (l[r1.1.toNat]?.getD Zd.zero),.p0 γ.1,.p0 γ.2,undef,undef]) (writes:=[9,10,11,12]) (mem:=fun bs γ=>match bs with | [x9_,fl,fm,y5]=>(bif fm then [Bk γ.1 (Zd.c (l[(w64 (r1.1-1)).toNat]?.getD Zd.zero)) 71] else bif x9_ then [Bk γ.1 (Zd.c Zd.zero) 71] else [])++((bif y5 then [Bk γ.2 (Zd.c (l[r1.1.toNat]?.getD Zd.zero)) 71] else bif fl then [Bk γ.2 (Zd.c Zd.zero) 71] else [])++(Mr4_))|_=>[]) (0,0) (fun γ=>[(1,.i t),(4,.p0 b1),(7,.p0 γ.1),(8,.p0 γ.2)]) Kr Kr Kr Kr Kr (fun γ=>Kr) (fun _ hM=>hM) (fun γ=>Kr) ?_ ?_
  ·skip
   exact Steps.run (i:=0) 3 [0,0,0] Mr4_ Kr Kr (fun S (γ:Nat×Nat) w hM=>by rw[mS4 rfl rfl rfl rfl] at hM;exact hM.sub (Zl (Zl (aB _)))) Kr (fun (γ:Nat×Nat)=>{}) (XB (i:=3) (fun (γ:Nat×Nat)=>sV (Instr.indexAt 74 (.slice A_l l.length c_l) (.i (w64 (r1.1-1))))) (some 33) (fun (γ:Nat×Nat)=>.pointer (some ((A_l.getD Yz).add ((w64 (r1.1-1)).toNat*6)))) (fun _=>Mr4_) Kr (fun S (γ:Nat×Nat) w _ hM=>by rw[mS4 rfl rfl rfl rfl] at hM;exact hM.sub (Zl (Zl (aB _)))) (fun (γ:Nat×Nat) w hM=>Zr (h_l.sat hM) (by simp) Kr (by have u_:=Hr hok hr1;have v_:=u_.2 h1;omega) (by have u_:=Hr hok hr1;have v_:=u_.2 h1;omega)) (fun (γ:Nat×Nat)=>Kr) (fun (γ:Nat×Nat)=>Kr) (XB (i:=4) (fun (γ:Nat×Nat)=>sV (Instr.loadAt 71 (.pointer (some ((A_l.getD Yz).add ((w64 (r1.1-1)).toNat*6)))))) (some 34) (fun (γ:Nat×Nat)=>Zd.v (l[(w64 (r1.1-1)).toNat]?.getD Zd.zero)) (fun _=>Mr4_) Kr (fun S (γ:Nat×Nat) w _ hM=>by rw[mS4 rfl rfl rfl rfl] at hM;exact hM.sub (Zl (Zl (aB _)))) (fun (γ:Nat×Nat) w hM=>Z9 (n:=6) (off:=0) (i:=(w64 (r1.1-1)).toNat) (Zd.v (l[(w64 (r1.1-1)).toNat]?.getD Zd.zero)) (h_l.sat hM) (Z6 (getD_at _ _ Zd.zero (by have u_:=Hr hok hr1;have v_:=u_.2 h1;omega))) Kr Kr Kr) (fun (γ:Nat×Nat)=>Kr) (fun (γ:Nat×Nat)=>Kr) (Steps.run (i:=5) 7 [0,0] Mr4_ Kr Kr (fun S (γ:Nat×Nat) w hM=>by rw[mS4 rfl rfl rfl rfl] at hM;exact hM.sub (Zl (Zl (aB _)))) Kr (fun (γ:Nat×Nat)=>{}) (XB (i:=7) (fun (γ:Nat×Nat)=>sV (Instr.indexAt 74 (.slice A_l l.length c_l) (.i r1.1))) (some 37) (fun (γ:Nat×Nat)=>.pointer (some (Ix A_l (r1.1.toNat*6)))) (fun _=>Mr4_) Kr (fun S (γ:Nat×Nat) w _ hM=>by rw[mS4 rfl rfl rfl rfl] at hM;exact hM.sub (Zl (Zl (aB _)))) (fun (γ:Nat×Nat) w hM=>Zr (h_l.sat hM) (by simp) Kr (by have u_:=Hr hok hr1;omega) (by have u_:=Hr hok hr1;omega)) (fun (γ:Nat×Nat)=>Kr) (fun (γ:Nat×Nat)=>Kr) (XB (i:=8) (fun (γ:Nat×Nat)=>sV (Instr.loadAt 71 (.pointer (some (Ix A_l (r1.1.toNat*6)))))) (some 38) (fun (γ:Nat×Nat)=>Zd.v (l[r1.1.toNat]?.getD Zd.zero)) (fun _=>Mr4_) Kr (fun S (γ:Nat×Nat) w _ hM=>by rw[mS4 rfl rfl rfl rfl] at hM;exact hM.sub (Zl (Zl (aB _)))) (fun (γ:Nat×Nat) w hM=>Z9 (n:=6) (off:=0) (i:=r1.1.toNat) (Zd.v (l[r1.1.toNat]?.getD Zd.zero)) (h_l.sat hM) (Z6 (getD_at _ _ Zd.zero (by have u_:=Hr hok hr1;omega))) Kr Kr Kr) (fun (γ:Nat×Nat)=>Kr) (fun (γ:Nat×Nat)=>Kr) (Steps.op (i:=9) (Γ:=Nat) (fun g (γ:Nat×Nat)=>(g,γ.2)) (fun _=>[]) (fun b (γ:Nat×Nat)=>[Bk b (Zd.c Zd.zero) 71]) (fun S (γ:Nat×Nat)=>(bif S 12 then [Bk γ.2 (Zd.c (l[r1.1.toNat]?.getD Zd.zero)) 71] else bif S 10 then [Bk γ.2 (Zd.c Zd.zero) 71] else [])++(Mr4_)) [9,11,12] (fun (γ:Nat×Nat)=>sV (Instr.alloc 71 true (.tuple #[]))) (some 7) (fun b (γ:Nat×Nat)=>.p0 b) (fun S (γ:Nat×Nat) hj hd hl=>by rw[mS4 hj rfl (hl 11 Kr) rfl];exact aC _) (fun S (γ:Nat×Nat) g hl=>by rw[mS4 (S:=upS S 9) (a0:=9) (a1:=10) (a2:=11) (a3:=12) rfl rfl (hl 11 Kr) rfl];exact(aC _).symm) (fun (γ:Nat×Nat) M' w hM=>Q4 (v:=fun b=>.p0 b) (fun b M=>Kr) M' w hM) (fun (γ:Nat×Nat)=>Kr) (fun (γ:Nat×Nat) g=>Kr) Kr (fun (γ:Nat×Nat) g=>Kr) (Steps.op (i:=10) (Γ:=Nat) (fun g (γ:Nat×Nat)=>(γ.1,g)) (fun _=>[]) (fun b (γ:Nat×Nat)=>[Bk b (Zd.c Zd.zero) 71]) (fun S (γ:Nat×Nat)=>(bif S 11 then [Bk γ.1 (Zd.c (l[(w64 (r1.1-1)).toNat]?.getD Zd.zero)) 71] else bif S 9 then [Bk γ.1 (Zd.c Zd.zero) 71] else [])++(Mr4_)) [10,11,12] (fun (γ:Nat×Nat)=>sV (Instr.alloc 71 true (.tuple #[]))) (some 8) (fun b (γ:Nat×Nat)=>.p0 b) (fun S (γ:Nat×Nat) hj hd hl=>by rw[mS4 rfl hj rfl (hl 12 Kr)];exact(aA _ (aC _)).trans (ZC _ _ _)) (fun S (γ:Nat×Nat) g hl=>by rw[mS4 (S:=upS S 10) (a0:=9) (a1:=10) (a2:=11) (a3:=12) rfl rfl rfl (hl 12 Kr)];exact((aA _ (aC _)).trans (ZC _ _ _)).symm) (fun (γ:Nat×Nat) M' w hM=>Q4 (v:=fun b=>.p0 b) (fun b M=>Kr) M' w hM) (fun (γ:Nat×Nat)=>Kr) (fun (γ:Nat×Nat) g=>Kr) Kr (fun (γ:Nat×Nat) g=>Kr) (Steps.put (i:=11) (fun (γ:Nat×Nat)=>[Bk γ.1 (Zd.c Zd.zero) 71]) (fun (γ:Nat×Nat)=>[Bk γ.1 (Zd.c (l[(w64 (r1.1-1)).toNat]?.getD Zd.zero)) 71]) (fun S (γ:Nat×Nat)=>(bif S 12 then [Bk γ.2 (Zd.c (l[r1.1.toNat]?.getD Zd.zero)) 71] else bif S 10 then [Bk γ.2 (Zd.c Zd.zero) 71] else [])++(Mr4_)) (fun (γ:Nat×Nat)=>sU (Instr.storeAt 71 (.p0 γ.1) (Zd.v (l[(w64 (r1.1-1)).toNat]?.getD Zd.zero)))) none (fun S (γ:Nat×Nat) hj hd hl=>by rw[mS4 (hd 9 Kr) rfl hj rfl];exact aC _) (fun S (γ:Nat×Nat) _=>(aC _).symm) (fun (γ:Nat×Nat) M' w hM=>JB (fun b M=>Kr) (fun b M=>Kr) M' w hM) (fun (γ:Nat×Nat)=>Kr) (fun (γ:Nat×Nat)=>Kr) (Steps.put (i:=12) (fun (γ:Nat×Nat)=>[Bk γ.2 (Zd.c Zd.zero) 71]) (fun (γ:Nat×Nat)=>[Bk γ.2 (Zd.c (l[r1.1.toNat]?.getD Zd.zero)) 71]) (fun S (γ:Nat×Nat)=>(bif S 11 then [Bk γ.1 (Zd.c (l[(w64 (r1.1-1)).toNat]?.getD Zd.zero)) 71] else bif S 9 then [Bk γ.1 (Zd.c Zd.zero) 71] else [])++(Mr4_)) (fun (γ:Nat×Nat)=>sU (Instr.storeAt 71 (.p0 γ.2) (Zd.v (l[r1.1.toNat]?.getD Zd.zero)))) none (fun S (γ:Nat×Nat) hj hd hl=>by rw[mS4 rfl (hd 10 Kr) rfl hj];exact(aA _ (aC _)).trans (ZC _ _ _)) (fun S (γ:Nat×Nat) _=>((aA _ (aC _)).trans (ZC _ _ _)).symm) (fun (γ:Nat×Nat) M' w hM=>JB (fun b M=>Kr) (fun b M=>Kr) M' w hM) (fun (γ:Nat×Nat)=>Kr) (fun (γ:Nat×Nat)=>Kr) (X6 Kr))))))))))
  ·rintro⟨b2,b3⟩
   refine Yi [Bk b2 (Zd.c (l[(w64 (r1.1-1)).toNat]?.getD Zd.zero)) 71,Bk b3 (Zd.c (l[r1.1.toNat]?.getD Zd.zero)) 71,Bk b1 (Zd.c Zd.zero) 71] (fun _ hM=>hM) (Z3 (TC.seq (Kx 14 Kr Kr Kr (YY 14 [0,1,0] [(9,.i (w64 (t-(((l[(w64 (r1.1-1)).toNat]?.getD Zd.zero).Node).Time)))),(10,.i (w64 ((((l[r1.1.toNat]?.getD Zd.zero).Node).Time)-(((l[(w64 (r1.1-1)).toNat]?.getD Zd.zero).Node).Time))))] {} (Q1 rfl (Zf (Zc 8 [0,1] [(54,P.v (((l[(w64 (r1.1-1)).toNat]?.getD Zd.zero).Node).At)),(57,P.v (((l[r1.1.toNat]?.getD Zd.zero).Node).At)),(58,.i (w64 (t-(((l[(w64 (r1.1-1)).toNat]?.getD Zd.zero).Node).Time)))),(59,.i (w64 ((((l[r1.1.toNat]?.getD Zd.zero).Node).Time)-(((l[(w64 (r1.1-1)).toNat]?.getD Zd.zero).Node).Time))))] {} (TL.c 60 (Q8 (((l[(w64 (r1.1-1)).toNat]?.getD Zd.zero).Node).At) (((l[r1.1.toNat]?.getD Zd.zero).Node).At) (w64 (t-(((l[(w64 (r1.1-1)).toNat]?.getD Zd.zero).Node).Time))) (w64 ((((l[r1.1.toNat]?.getD Zd.zero).Node).Time)-(((l[(w64 (r1.1-1)).toNat]?.getD Zd.zero).Node).Time)))) (fun r2=>.tuple #[P.v r2.1,.i r2.2]) (fun w _=>DT (((l[(w64 (r1.1-1)).toNat]?.getD Zd.zero).Node).At) (((l[r1.1.toNat]?.getD Zd.zero).Node).At) (w64 (t-(((l[(w64 (r1.1-1)).toNat]?.getD Zd.zero).Node).Time))) (w64 ((((l[r1.1.toNat]?.getD Zd.zero).Node).Time)-(((l[(w64 (r1.1-1)).toNat]?.getD Zd.zero).Node).Time))) w) {} (fun r2 hr2=>Zc 12 [] [(61,P.v r2.1),(62,.i r2.2)] {} (ZA 11 (fun b4=>.p0 b4) (fun b4=>Bk b4 (P.c P.zero) 36) (fun b4=>{}) (fun b4=>Yp 0 (Bk b4 (P.c r2.1) 36) (fun _=>{}) (Zc 15 [] [] {} (Zz (Zc 10 [2,1] [(72,.i (w64 ((w64 ((((l[r1.1.toNat]?.getD Zd.zero).Node).Height)-(((l[(w64 (r1.1-1)).toNat]?.getD Zd.zero).Node).Height)))*(w64 (t-(((l[(w64 (r1.1-1)).toNat]?.getD Zd.zero).Node).Time)))))),(73,.i (w64 ((((l[r1.1.toNat]?.getD Zd.zero).Node).Time)-(((l[(w64 (r1.1-1)).toNat]?.getD Zd.zero).Node).Time))))] {} ?_))))))))))))))
   generalize hr3:w64 ((w64 ((((l[r1.1.toNat]?.getD Zd.zero).Node).Height)-(((l[(w64 (r1.1-1)).toNat]?.getD Zd.zero).Node).Height)))*(w64 (t-(((l[(w64 (r1.1-1)).toNat]?.getD Zd.zero).Node).Time))))=r3
   exact TL.c 74 (YL r3 (w64 ((((l[r1.1.toNat]?.getD Zd.zero).Node).Time)-(((l[(w64 (r1.1-1)).toNat]?.getD Zd.zero).Node).Time)))) (fun r4=>.tuple #[.i r4.1,.i r4.2]) (fun w _=>KT r3 (w64 ((((l[r1.1.toNat]?.getD Zd.zero).Node).Time)-(((l[(w64 (r1.1-1)).toNat]?.getD Zd.zero).Node).Time))) w) {} (fun r4 hr4=>Zc 16 [] [(13,.i r4.1)] {} (Zz (Zc 8 [2,1] [(84,.i (w64 ((w64 (((l[r1.1.toNat]?.getD Zd.zero).Radius)-((l[(w64 (r1.1-1)).toNat]?.getD Zd.zero).Radius)))*(w64 (t-(((l[(w64 (r1.1-1)).toNat]?.getD Zd.zero).Node).Time)))))),(85,.i (w64 ((((l[r1.1.toNat]?.getD Zd.zero).Node).Time)-(((l[(w64 (r1.1-1)).toNat]?.getD Zd.zero).Node).Time))))] {} (TL.c 86 (X1 (w64 ((w64 (((l[r1.1.toNat]?.getD Zd.zero).Radius)-((l[(w64 (r1.1-1)).toNat]?.getD Zd.zero).Radius)))*(w64 (t-(((l[(w64 (r1.1-1)).toNat]?.getD Zd.zero).Node).Time))))) (w64 ((((l[r1.1.toNat]?.getD Zd.zero).Node).Time)-(((l[(w64 (r1.1-1)).toNat]?.getD Zd.zero).Node).Time)))) (fun r5=>.tuple #[.i r5.1,.i r5.2]) (fun w _=>KB (w64 ((w64 (((l[r1.1.toNat]?.getD Zd.zero).Radius)-((l[(w64 (r1.1-1)).toNat]?.getD Zd.zero).Radius)))*(w64 (t-(((l[(w64 (r1.1-1)).toNat]?.getD Zd.zero).Node).Time))))) (w64 ((((l[r1.1.toNat]?.getD Zd.zero).Node).Time)-(((l[(w64 (r1.1-1)).toNat]?.getD Zd.zero).Node).Time))) w) {} (fun r5 hr5=>Zc 14 [] [(15,.i r5.1)] {} (Zz (Zc 8 [2,1] [(96,.i (w64 ((w64 (((l[r1.1.toNat]?.getD Zd.zero).Band)-((l[(w64 (r1.1-1)).toNat]?.getD Zd.zero).Band)))*(w64 (t-(((l[(w64 (r1.1-1)).toNat]?.getD Zd.zero).Node).Time)))))),(97,.i (w64 ((((l[r1.1.toNat]?.getD Zd.zero).Node).Time)-(((l[(w64 (r1.1-1)).toNat]?.getD Zd.zero).Node).Time))))] {} (TL.c 98 (X1 (w64 ((w64 (((l[r1.1.toNat]?.getD Zd.zero).Band)-((l[(w64 (r1.1-1)).toNat]?.getD Zd.zero).Band)))*(w64 (t-(((l[(w64 (r1.1-1)).toNat]?.getD Zd.zero).Node).Time))))) (w64 ((((l[r1.1.toNat]?.getD Zd.zero).Node).Time)-(((l[(w64 (r1.1-1)).toNat]?.getD Zd.zero).Node).Time)))) (fun r6=>.tuple #[.i r6.1,.i r6.2]) (fun w _=>KB (w64 ((w64 (((l[r1.1.toNat]?.getD Zd.zero).Band)-((l[(w64 (r1.1-1)).toNat]?.getD Zd.zero).Band)))*(w64 (t-(((l[(w64 (r1.1-1)).toNat]?.getD Zd.zero).Node).Time))))) (w64 ((((l[r1.1.toNat]?.getD Zd.zero).Node).Time)-(((l[(w64 (r1.1-1)).toNat]?.getD Zd.zero).Node).Time))) w) {} (fun r6 hr6=>Zc 14 [] [(17,.i r6.1)] {} (Zz (Zc 17 [0,1,1,1] [(117,Zd.v (⟨⟨t,r2.1,w64 ((((l[(w64 (r1.1-1)).toNat]?.getD Zd.zero).Node).Height)+r4.1)⟩,w64 (((l[(w64 (r1.1-1)).toNat]?.getD Zd.zero).Radius)+r5.1),w64 (((l[(w64 (r1.1-1)).toNat]?.getD Zd.zero).Band)+r6.1)⟩:Zd))] {} (Yp 3 (Bk b1 (Zd.c (⟨⟨t,r2.1,w64 ((((l[(w64 (r1.1-1)).toNat]?.getD Zd.zero).Node).Height)+r4.1)⟩,w64 (((l[(w64 (r1.1-1)).toNat]?.getD Zd.zero).Radius)+r5.1),w64 (((l[(w64 (r1.1-1)).toNat]?.getD Zd.zero).Band)+r6.1)⟩:Zd)) 71) (fun _=>{}) (Zb rfl (TC.ret (TE.ret [3] (Zd.v (⟨⟨t,r2.1,w64 ((((l[(w64 (r1.1-1)).toNat]?.getD Zd.zero).Node).Height)+r4.1)⟩,w64 (((l[(w64 (r1.1-1)).toNat]?.getD Zd.zero).Radius)+r5.1),w64 (((l[(w64 (r1.1-1)).toNat]?.getD Zd.zero).Band)+r6.1)⟩:Zd)) {} (by unfold GW;refine eS (fun z=>(Zd.v z:Value)) ?_;subst hr1 hr2 hr3 hr4 hr5 hr6;exact Ze h1 (rfl)))))))))))))))))
def JV (l:List Zd) (t:Int):Zd×Int :=
 let r1:=YK l
 cond (r1 != 0) (
  ((⟨⟨0,⟨0,0⟩,0⟩,0,0⟩:Zd),r1)) (
  let r2:=Vh l
  cond ((decide (t<r2.1))||(decide (t>r2.2))) (
   ((⟨⟨0,⟨0,0⟩,0⟩,0,0⟩:Zd),12)) (
   let r3:=GW l t
   (r3,0)))
theorem GX (A_l:Option Addr) (c_l:Nat) (l:List Zd) (t:Int) (w:World) (h_l:Rd w 6 A_l (l.map Zd.c)) (km:l.length≤c_l):Calls Tryz.prog 28 #[.slice A_l l.length c_l,.int .i64 t] w (Ret w (.tuple #[Zd.v ((JV l t).1),.int .i64 ((JV l t).2)])):=by
 have s_l:=h_l.short;rw[aD] at s_l
 refine Zp (vs:=[.slice A_l l.length c_l,.i t]) (w:=w) Tryz.func28 rfl Tryz.ntmps28 rfl (Zf (ZA 4 (fun b1=>.p0 b1) (fun b1=>Bk b1 (Zd.c Zd.zero) 71) (fun b1=>{}) (fun b1=>Zc 2 [] [(5,.i 0)] {} (Z1 (Zf (Zc 1 [] [(9,.slice A_l l.length c_l)] {} (TL.c 10 (YK l) (fun r1=>.i r1) (fun w hM=>Hq A_l c_l l w (h_l.sat hM) km) {} (fun r1 hr1=>Zc 3 [] [(6,.i r1)] {} (Zz (Zc 2 [] [(12,.b (r1 != 0))] {} (Zb rfl (TC.cond (r1 != 0) rfl Kr (fun h1=>?_) (fun h1=>?_)))))))))))))
 ·exact Zf (Zc 2 [] [(13,Zd.v Zd.zero),(14,.i r1)] {} (Yp 0 (Bk b1 (Zd.c Zd.zero) 71) (fun _=>{}) (Zc 4 [] [(5,.i r1)] {} (Zb rfl (TC.ret (Zo (TE.ret [0] (.tuple #[Zd.v (⟨⟨0,⟨0,0⟩,0⟩,0,0⟩:Zd),.i r1]) {} (by unfold JV;refine eS (a:=((⟨⟨0,⟨0,0⟩,0⟩,0,0⟩:Zd),r1)) (fun (z:Zd×Int)=>(.tuple #[Zd.v z.1,.i z.2]:Value)) ?_;subst hr1;exact Zm h1 (rfl)))))))))
 ·refine Yg (TC.seq (Zf (Zc 1 [] [(16,.slice A_l l.length c_l)] {} (TL.c 17 (Vh l) (fun r2=>.tuple #[.i r2.1,.i r2.2]) (fun w hM=>Rn A_l c_l l w (h_l.sat hM) km (Eb hr1 h1)) {} (fun r2 hr2=>Zc 7 [] [(7,.i r2.1),(8,.i r2.2)] {} (Zz (Zc 4 [] [(23,.b (decide (t<r2.1)))] {} (XM 23 (decide (t<r2.1)) 8 [] [] (fun β=>[(27,.b (β||(decide (t>r2.2))))]) Kr {} {} (Zb rfl (TC.cond ((decide (t<r2.1))||(decide (t>r2.2))) rfl Kr (fun h2=>?_) (fun h2=>?_)))))))))))
  ·exact Zf (Zc 1 [] [(28,Zd.v Zd.zero)] {} (Yp 0 (Bk b1 (Zd.c Zd.zero) 71) (fun _=>{}) (Zc 3 [] [(5,.i 12)] {} (Zb rfl (TC.ret (Zo (TE.ret [0] (.tuple #[Zd.v (⟨⟨0,⟨0,0⟩,0⟩,0,0⟩:Zd),.i 12]) {} (by unfold JV;refine eS (a:=((⟨⟨0,⟨0,0⟩,0⟩,0,0⟩:Zd),12)) (fun (z:Zd×Int)=>(.tuple #[Zd.v z.1,.i z.2]:Value)) ?_;subst hr1 hr2;exact Ze h1 (Zm h2 (rfl))))))))))
  ·exact Yc (Zc 2 [] [(29,.slice A_l l.length c_l),(30,.i t)] {} (TL.c 31 (GW l t) (fun r3=>Zd.v r3) (fun w hM=>Pj A_l c_l l t w (h_l.sat hM) km (Im hr1 h1 hr2 h2)) {} (fun r3 hr3=>Yp 0 (Bk b1 (Zd.c r3) 71) (fun _=>{}) (Zc 5 [] [(5,.i 0)] {} (Zb rfl (TC.ret (TE.ret [0] (.tuple #[Zd.v r3,.i 0]) {} (by unfold JV;refine eS (a:=(r3,0)) (fun (z:Zd×Int)=>(.tuple #[Zd.v z.1,.i z.2]:Value)) ?_;subst hr1 hr2 hr3;exact Ze h1 (Ze h2 (rfl))))))))))
end Go.Sky
end
section
namespace Go.Sky
open Go Go.Eng Go.Proofs
def Qx (t:Track) (l:List Zd):Zd×Bool :=
 let r1:=JV l t.Time
 cond (r1.2==0) (
  let r2:=ZX r1.1.Node.At t.At (w64 (r1.1.Radius+t.Radius))
  (r1.1,r2&&(decide ((Vu (w64 (r1.1.Node.Height-t.Height)) (w64 (t.Height-r1.1.Node.Height)))≤(w64 (r1.1.Band+100)))))) (
  (r1.1,false))
theorem Ro (t:Track) (A_l:Option Addr) (c_l:Nat) (l:List Zd) (w:World) (h_l:Rd w 6 A_l (l.map Zd.c)) (km:l.length≤c_l):Calls Tryz.prog 120 #[Track.v t,.slice A_l l.length c_l] w (Ret w (.tuple #[Zd.v ((Qx t l).1),.bool ((Qx t l).2)])):=by
 have s_l:=h_l.short;rw[aD] at s_l
 refine Zp (vs:=[Track.v t,.slice A_l l.length c_l]) (w:=w) Tryz.func120 rfl Tryz.ntmps120 rfl (Zf (ZA 2 (fun b1=>.p0 b1) (fun b1=>Bk b1 (Track.c t) 40) (fun b1=>{}) (fun b1=>ZA 4 (fun b2=>.p0 b2) (fun b2=>Bk b2 (Zd.c Zd.zero) 71) (fun b2=>{}) (fun b2=>Zc 3 [] [(5,.b false)] {} (Zz (Zc 3 [1] [(9,.slice A_l l.length c_l),(11,.i t.Time)] {} (TL.c 12 (JV l t.Time) (fun r1=>.tuple #[Zd.v r1.1,.i r1.2]) (fun w hM=>GX A_l c_l l t.Time w (h_l.sat hM) km) {} (fun r1 hr1=>Zc 7 [] [(13,Zd.v r1.1),(14,.i r1.2)] {} (ZA 6 (fun b3=>.p0 b3) (fun b3=>Bk b3 (Zd.c Zd.zero) 71) (fun b3=>{}) (fun b3=>Yp 0 (Bk b3 (Zd.c r1.1) 71) (fun _=>{}) (Zc 10 [] [(7,.i r1.2)] {} (Z1 (GG 35 [Bk b3 (Zd.c r1.1) 71,Bk b1 (Track.c t) 40] [Bk b3 (Zd.c r1.1) 71,Bk b2 (Zd.c r1.1) 71,Bk b1 (Track.c t) 40] (sb 5) (sb 5) Kr Kr (TG.run 4 [0] [(2,.p0 b1),(4,.p0 b2),(6,.p0 b3),(15,Zd.v r1.1),(18,.b (r1.2==0))] rfl rfl rfl {} (Rz 18 (r1.2==0) Kr (fun h1=>?_) (fun h1=>?_))))))))))))))))
 ·refine TG.run 14 [0,1,0,1] [(2,.p0 b1),(4,.p0 b2),(6,.p0 b3),(15,Zd.v r1.1),(18,.b true),(21,P.v r1.1.Node.At),(23,P.v t.At),(28,.i (w64 (r1.1.Radius+t.Radius)))] rfl rfl rfl {} (TG.call (some 29) [(2,.p0 b1),(4,.p0 b2),(6,.p0 b3),(15,Zd.v r1.1),(18,.b true),(29,.b ((ZX r1.1.Node.At t.At (w64 (r1.1.Radius+t.Radius)))))] (fun w _=>QR r1.1.Node.At t.At (w64 (r1.1.Radius+t.Radius)) w) rfl Kr Kr ?_)
  generalize hr2:ZX r1.1.Node.At t.At (w64 (r1.1.Radius+t.Radius))=r2
  exact TG.run 17 [] [(2,.p0 b1),(4,.p0 b2),(6,.p0 b3),(15,Zd.v r1.1),(31,.b r2)] rfl rfl rfl {} (Iq 31 r2 35 [0,1,1,0,0] [] (fun β=>[(4,.p0 b2),(15,Zd.v r1.1),(49,.b (β&&(decide ((Vu (w64 (r1.1.Node.Height-t.Height)) (w64 (t.Height-r1.1.Node.Height)))≤(w64 (r1.1.Band+100))))))]) Kr rfl rfl rfl {} {} (TG.store 1 rfl (fun _=>{}) (TG.run 37 [] [(4,.p0 b2),(5,.b (r2&&(decide ((Vu (w64 (r1.1.Node.Height-t.Height)) (w64 (t.Height-r1.1.Node.Height)))≤(w64 (r1.1.Band+100))))))] rfl rfl rfl {} (GY rfl rfl (TC.ret (TE.ret [1] (.tuple #[Zd.v r1.1,.b (r2&&(decide ((Vu (w64 (r1.1.Node.Height-t.Height)) (w64 (t.Height-r1.1.Node.Height)))≤(w64 (r1.1.Band+100)))))]) {} (by unfold Qx;refine eS (a:=(r1.1,r2&&(decide ((Vu (w64 (r1.1.Node.Height-t.Height)) (w64 (t.Height-r1.1.Node.Height)))≤(w64 (r1.1.Band+100)))))) (fun (z:Zd×Bool)=>(.tuple #[Zd.v z.1,.b z.2]:Value)) ?_;subst hr1 hr2;exact Zm h1 (rfl))))))))
 ·exact TG.run 35 [] [(4,.p0 b2),(15,Zd.v r1.1),(49,.b false)] rfl rfl rfl {} (TG.store 1 rfl (fun _=>{}) (TG.run 37 [] [(4,.p0 b2),(5,.b false)] rfl rfl rfl {} (GY rfl rfl (TC.ret (TE.ret [1] (.tuple #[Zd.v r1.1,.b false]) {} (by unfold Qx;refine eS (a:=(r1.1,false)) (fun (z:Zd×Bool)=>(.tuple #[Zd.v z.1,.b z.2]:Value)) ?_;subst hr1;exact Ze h1 (rfl)))))))
def QQ (qm:List Int):List (List Zd)→Nat→((Unit) ⊕ (Int))
 | [],_=>.inl ()
 | x::xs,k=>let r1:=YK x
  cond (r1 != 0) (
   .inr r1) (
   cond (decide ((qm[k]?.getD 0)<0)) (
    .inr 4) (
    cond (decide ((qm[k]?.getD 0)>4095)) (
     .inr 4) (
     QQ qm xs (k+1))))
def XG (ql:List (List Zd)) (qm:List Int):Int :=
 cond (decide ((ql.length:Int)>24)) (
  2) (
  cond ((qm.length:Int) != (ql.length:Int)) (
   3) (
   Sum.elim (fun _ =>
    0) (fun r=>r) (QQ qm ql 0)))
set_option maxHeartbeats 4000000 in
theorem Ht (A_tubes:Option Addr) (qu:Nat) (ql:List (List Zd)) (qj:List (Sl Zd)) (A_codes:Option Addr) (qw:Nat) (qm:List Int) (w:World) (ji:Rd w 1 A_tubes (qj.map Sl.c)) (_hc_tubes:ql.length≤qu) (x8:∀ s∈qj,s.rd w 6 Zd.c) (zj:ql=qj.map Sl.l) (jj:Rd w 1 A_codes (qm.map ic)) (_hc_codes:qm.length≤qw):Calls Tryz.prog 67 #[.slice A_tubes ql.length qu,.slice A_codes qm.length qw] w (Ret w (.int .i64 (XG ql qm))):=by
 have wh:=ji.short;rw[← Jt zj] at wh
 have wj:=jj.short;rw[aD] at wj
 refine Zp (vs:=[.slice A_tubes ql.length qu,.slice A_codes qm.length qw]) (w:=w) Tryz.func67 rfl Tryz.ntmps67 rfl (Zf (Zc 1 [] [(4,.i 0)] {} (Z1 (TC.block (Zf (Zc 4 [] [(8,.b (decide ((ql.length:Int)>24)))] {} (Zb rfl (TC.cond (decide ((ql.length:Int)>24)) rfl Kr (fun h1=>?_) (fun h1=>?_)))))))))
 ·refine Zf (Zc 1 [] [(4,.i 2)] {} (Zb rfl (TC.ret (ZL (Zo ?_)))))
  exact TE.ret [] (.i 2) {} (by unfold XG;refine eS (fun z=>(.i z:Value)) ?_;exact Zm h1 (rfl))
 ·have vm:=(Zv h1)
  refine Zf (Zc 6 [] [(12,.b ((qm.length:Int) != (ql.length:Int)))] {} (Zb rfl (TC.cond ((qm.length:Int) != (ql.length:Int)) rfl Kr (fun h2=>?_) (fun h2=>?_))))
  ·refine Zf (Zc 1 [] [(4,.i 3)] {} (Zb rfl (TC.ret (ZL (Zo ?_)))))
   exact TE.ret [] (.i 3) {} (by unfold XG;refine eS (fun z=>(.i z:Value)) ?_;exact Ze h1 (Zm h2 (rfl)))
  ·have k9:=(QA h2)
   refine TC.skip (ZY (Z3 (TC.seq (Zf (Zc 3 [] [(18,.slice A_tubes ql.length qu),(19,.i (ql.length:Int)),(20,.i 0)] {} (Zb rfl ?_))))))
   obtain⟨R1,hR⟩:∃ R,R=QQ qm ql 0:=⟨_,rfl⟩
   refine TC.cut (S:=Unit) (fun (_:Unit)=>[]) (fun (_:Unit)=>[]) (fun (_:Unit)=>R1=.inl ()) ?_ ?_
   ·refine TC.block (Xp (X:=Nat) (fun k=>[(1,.slice A_codes qm.length qw),(18,.slice A_tubes ql.length qu),(19,.i (ql.length:Int)),(20,.i (k:Int))]) (fun k=>[]) (fun k=>ql.length-k) (fun k=>k≤ql.length∧R1=QQ qm (ql.drop k) k) ?_ 0 ⟨aP _,hR⟩ Kr (sb 0))
    rintro k ⟨hk,hI⟩
    refine Zf (Zc 1 [] [(21,.b (decide ((k:Int)<(ql.length:Int))))] {} (Z1 (TC.cond (decide ((k:Int)<(ql.length:Int))) rfl Kr (fun h3=>?_) (fun h3=>?_))))
    ·have hlt:=ltN h3
     obtain⟨x,hx⟩:=elN hlt
     have hd:=drop_at hx
     refine Yg (TC.seq (TC.block (Zf (Zc 1 [] [(22,.i (k:Int))] {} (TL.v (sV (Instr.indexAt 67 (.slice A_tubes ql.length qu) (.i (k:Int)))) 23 (.pointer (some (Ix A_tubes (k*1)))) (fun w hM=>Zr (ji.sat hM) (Jt zj) Kr sd sd) {} ?_)))))
     have w5:=(JD (XS x8 k) (JW zj hx)).short;rw[aD] at w5
     refine TL.v (sV (Instr.loadAt 74 (.pointer (some (Ix A_tubes (k*1)))))) 24 (.slice ((qj[k]?.getD Sl.zero).A) x.length ((qj[k]?.getD Sl.zero).cap)) (fun w hM=>(by have h:=Zu (P:=Tryz.prog) (T:=74) (off:=0) (i:=k) (.slice (qj[k]?.getD Sl.zero).A (qj[k]?.getD Sl.zero).l.length (qj[k]?.getD Sl.zero).cap) (ji.sat hM) (Z6 (getD_at _ _ Sl.zero (U9 zj (aK.1 hx).1))) Kr Kr;rw[(JW zj hx)] at h;exact h)) {} ?_
     refine Zc 5 [] [(5,.i (k:Int)),(6,.slice ((qj[k]?.getD Sl.zero).A) x.length ((qj[k]?.getD Sl.zero).cap))] {} (Z1 (Zf (Zc 1 [] [(25,.slice ((qj[k]?.getD Sl.zero).A) x.length ((qj[k]?.getD Sl.zero).cap))] {} (TL.c 26 (YK x) (fun r1=>.i r1) (fun w hM=>Hq ((qj[k]?.getD Sl.zero).A) ((qj[k]?.getD Sl.zero).cap) x w (JD ((XS x8 k).sat hM) (JW zj hx)) (Lh ((XS x8 k).sat hM) (JW zj hx))) {} (fun r1 hr1=>Zc 3 [] [(7,.i r1)] {} (Zz (Zc 2 [] [(28,.b (r1 != 0))] {} (Zb rfl (TC.cond (r1 != 0) rfl Kr (fun h4=>?_) (fun h4=>?_))))))))))
     ·refine Zf (Zc 2 [] [(4,.i r1)] {} (Zb rfl (TC.ret (Zo (ZL (Zo (Zo (ZL (Zo (Zo ?_))))))))))
      exact TE.ret [] (.i r1) {} (by unfold XG;refine eS (fun z=>(.i z:Value)) ?_;subst hr1;exact Ze h1 (Ze h2 (Xh (hR.symm.trans (hI.trans (by rw[hd];exact Zm h4 (rfl)))) rfl)))
     ·have yq:=(QA h4)
      refine Yc (Zc 2 [] [(30,.slice A_codes qm.length qw),(31,.i (k:Int))] {} (TL.v (sV (Instr.indexAt 22 (.slice A_codes qm.length qw) (.i (k:Int)))) 32 (.pointer (some (Ix A_codes (k*1)))) (fun w hM=>Zr (jj.sat hM) (by simp) Kr sd sd) {} (TL.v (sV (Instr.loadAt 3 (.pointer (some (Ix A_codes (k*1)))))) 33 (.i (qm[k]?.getD 0)) (fun w hM=>Zu (off:=0) (i:=k) (.i (qm[k]?.getD 0)) (jj.sat hM) (Z6 (getD_at _ _ 0 sd)) Kr Kr) {} (Zc 6 [] [(35,.b (decide ((qm[k]?.getD 0)<0)))] {} (Yy 35 (decide ((qm[k]?.getD 0)<0)) Kr (fun h5=>?_) (fun h5=>?_))))))
      ·refine Zc 12 [] [(41,.b true)] {} (Zb rfl (Xg rfl Kr (Zf (Zc 1 [] [(4,.i 4)] {} (Zb rfl (TC.ret (ZL (Zo (Zo (ZL (Zo (Zo ?_))))))))))))
       exact TE.ret [] (.i 4) {} (by unfold XG;refine eS (fun z=>(.i z:Value)) ?_;subst hr1;exact Ze h1 (Ze h2 (Xh (hR.symm.trans (hI.trans (by rw[hd];exact Ze h4 (Zm h5 (rfl))))) rfl)))
      ·have uf:=(Zv h5)
       refine Zc 8 [] [(36,.slice A_codes qm.length qw),(37,.i (k:Int))] {} (TL.v (sV (Instr.indexAt 22 (.slice A_codes qm.length qw) (.i (k:Int)))) 38 (.pointer (some (Ix A_codes (k*1)))) (fun w hM=>Zr (jj.sat hM) (by simp) Kr sd sd) {} (TL.v (sV (Instr.loadAt 3 (.pointer (some (Ix A_codes (k*1)))))) 39 (.i (qm[k]?.getD 0)) (fun w hM=>Zu (off:=0) (i:=k) (.i (qm[k]?.getD 0)) (jj.sat hM) (Z6 (getD_at _ _ 0 sd)) Kr Kr) {} (Zc 12 [] [(41,.b (decide ((qm[k]?.getD 0)>4095)))] {} (Zb rfl (TC.cond (decide ((qm[k]?.getD 0)>4095)) rfl Kr (fun h6=>?_) (fun h6=>?_))))))
       ·refine Zf (Zc 1 [] [(4,.i 4)] {} (Zb rfl (TC.ret (ZL (Zo (Zo (ZL (Zo (Zo ?_)))))))))
        exact TE.ret [] (.i 4) {} (by unfold XG;refine eS (fun z=>(.i z:Value)) ?_;subst hr1;exact Ze h1 (Ze h2 (Xh (hR.symm.trans (hI.trans (by rw[hd];exact Ze h4 (Ze h5 (Zm h6 (rfl)))))) rfl)))
       ·have y3:=(Zv h6)
        exact TC.skip (ZY (Z3 (TC.region (Zc 2 [] [(20,.i (w64 ((k:Int)+1)))] {} (Zw rfl (TE.rw 20 (.i (w64 ((k:Int)+1))) (.i ((k+1:Nat):Int)) Kr (ZD k (by omega)) (Z4 (x:=k) (k+1) ⟨by omega,hI.trans (by subst hr1;rw[hd];exact Ze h4 (Ze h5 (Ze h6 (rfl))))⟩ (mN hlt) Kr (sb 0))))))))
    ·have hd:=Qb h3
     refine TC.exit (ZT (ZT (Z0 ?_)))
     exact TE.cut () (hI.trans (by rw[hd];exact rfl)) Kr (sb 0)
   ·intro _ hJ
    exact YC (Zc 1 [] [(4,.i 0)] {} (Zb rfl (TC.ret (TE.ret [] (.i 0) {} (by unfold XG;refine eS (fun z=>(.i z:Value)) ?_;exact Ze h1 (Ze h2 (Q3 (hR.symm.trans hJ) (rfl))))))))
end Go.Sky
end
section
namespace Go.Sky
open Go Go.Eng
theorem Nh {C:List Int}:∀ (xs:List (List Zd)) (k:Nat),(QQ C xs k=.inl ()∧∀ t∈xs,YK t=0)∨∃ e,QQ C xs k=.inr e∧e≠0
 | [],_=>.inl ⟨rfl,fun _ h=>by cases h⟩
 | x::xs,k=>by
  unfold QQ
  simp only
  cases h1:(YK x != 0)
  ·rw[cond_false]
   cases h2:decide ((C[k]?.getD 0)<0)
   ·rw[cond_false]
    cases h3:decide ((C[k]?.getD 0)>4095)
    ·rw[cond_false]
     rcases Nh (C:=C) xs (k+1) with ⟨e,h⟩|h
     ·refine .inl ⟨e,fun t ht=>?_⟩
      rcases bB.1 ht with rfl|ht
      ·simpa using h1
      ·exact h t ht
     ·exact .inr h
    ·exact .inr ⟨4,rfl,by decide⟩
   ·exact .inr ⟨4,rfl,by decide⟩
  ·exact .inr ⟨_,rfl,by simpa using h1⟩
theorem TZ {T:List (List Zd)} {C:List Int} (h:XG T C=0):T.length≤24∧C.length=T.length∧∀ t∈T,YK t=0:=by
 unfold XG at h
 cases h1:decide ((T.length:Int)>24)
 ·rw[h1,cond_false] at h
  have h1:=of_decide_eq_false h1
  cases h2:((C.length:Int) != (T.length:Int))
  ·rw[h2,cond_false] at h
   have h2:(C.length:Int)=(T.length:Int):=by simpa using h2
   rcases Nh (C:=C) T 0 with ⟨e,q⟩|⟨e,he,hz⟩
   ·exact⟨by omega,by omega,q⟩
   ·rw[he] at h;exact absurd h hz
  ·rw[h2,cond_true] at h;exact absurd h (by decide)
 ·rw[h1,cond_true] at h;exact absurd h (by decide)
theorem Zx {T:List (List Zd)} {C:List Int} {r:Int} (hr:XG T C=r) (h:(r != 0)=false):T.length≤24∧C.length=T.length:=by
 subst hr;have:=TZ (by simpa using h);exact⟨this.1,this.2.1⟩
end Go.Sky
end
