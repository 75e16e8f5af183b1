/- Lemmas toward the given statement (part 1 of 20): Eng Run Draw Order Sky Slice Eq. Each theorem states its own conditions; nothing is assumed beyond them. -/
import Derived.WalkKit
import Derived.Deep.Quiet
import Derived.StillTail
import Derived.KernelRfl
import Derived.Laws.StructEq
set_option maxRecDepth 100000
section
namespace Go
abbrev Value.i (x:Int):Value:=.int .i64 x
abbrev Value.fl (x:Nat):Value:=.float .f64 x
abbrev aA:=@List.Sublist.refl
abbrev aB:=@List.Perm.append_left
abbrev aC:=@List.Perm.refl
abbrev aD:=@Option.some.injEq
abbrev aF:=@List.length_map
abbrev aG:=@List.length_cons
abbrev aH:=@List.mem_of_getElem?
abbrev aI:=@List.length_append
abbrev aJ:=@List.mem_cons_of_mem
abbrev aK:=@List.getElem?_eq_some_iff
abbrev aL:=@Nat.le_of_ble_eq_true
abbrev aM:=@List.mem_cons_self
abbrev aN:=@Nat.zero_le
abbrev aO:=@Int.natCast_nonneg
abbrev aP:=@Int.toNat_natCast
abbrev aQ:=@List.length_set
abbrev aR:=@Nat.le_refl
abbrev aS:=@List.getElem?_eq_getElem
abbrev aT:=@List.append_assoc
abbrev aU:=@Prod.mk.injEq
abbrev aV:=@List.mem_singleton
abbrev aW:=@Bool.and_eq_true
abbrev aX:=@Array.length_toList
abbrev aY:=@Int.mul_nonneg
abbrev aZ:=@Array.getElem?_toList
abbrev bA:=@List.mem_cons
abbrev bB:=@Nat.zero_add
abbrev bC:=@List.all_eq_true
abbrev bD:=@List.mem_append
abbrev bE:=@Nat.eq_of_beq_eq_true
abbrev bF:=@Nat.two_pow_pos
abbrev bG:=@List.length_take
abbrev bH:=@Nat.le_trans
abbrev bI:=@Nat.add_zero
abbrev bJ:=@List.length_nil
abbrev bK:=@Bool.eq_iff_iff
abbrev bL:=@List.length_replicate
abbrev bM:=@Nat.eq_zero_or_pos
abbrev bN:=@Int.toNat_of_nonneg
abbrev bO:=@Nat.mul_le_mul_right
abbrev bP:=@Nat.pow_le_pow_right
abbrev bQ:=@Nat.pow_add
abbrev bR:=@Bool.or_eq_false_iff
abbrev bS:=@List.append_nil
abbrev bT:=@List.mem_map
abbrev bU:=@List.length_drop
abbrev bV:=@Nat.lt_of_lt_of_le
abbrev bW:=@Array.getElem?_eq_getElem
abbrev bX:=@Int.mul_le_mul
abbrev bY:=@Array.getElem?_eq_some_iff
abbrev bZ:=@Int.tmod_eq_emod_of_nonneg
abbrev cA:=@List.getElem?_append_left
abbrev cB:=@Nat.shiftLeft_eq
abbrev cC:=@Int.ofNat_lt
abbrev cD:=@Nat.mul_lt_mul_of_pos_right
abbrev cE:=@Option.map_some
abbrev cF:=@Nat.not_lt_zero
abbrev cG:=@List.getElem?_cons_zero
abbrev cH:=@List.getElem?_cons_succ
abbrev cI:=@Nat.mod_eq_of_lt
abbrev cJ:=@Int.mul_le_mul_of_nonneg_right
abbrev cK:=@List.getElem?_map
abbrev cL:=@List.mem_append_left
abbrev cM:=@List.drop_eq_nil_of_le
abbrev cN:=@Int.neg_mul_neg
abbrev cO:=@List.nil_append
abbrev cP:=@Nat.add_mul
abbrev cQ:=@List.getElem?_of_mem
abbrev cR:=@Nat.shiftLeft_zero
abbrev cS:=@Nat.mul_comm
abbrev cT:=@Nat.lt_succ_self
abbrev cU:=@Option.some.inj
abbrev cV:=@List.getElem?_drop
abbrev cW:=@Nat.zero_shiftLeft
abbrev cX:=@Option.getD_some
abbrev cY:=@List.pairwise_append
abbrev cZ:=@Nat.lt_log2_self
abbrev dA:=@Array.getElem?_eq_none
abbrev dB:=@List.getElem?_append_right
abbrev dC:=@Int.tdiv_eq_ediv_of_nonneg
abbrev dD:=@List.map_append
abbrev dE:=@Nat.log2_lt
abbrev dF:=@List.getElem?_eq_none
abbrev dG:=@Nat.div_lt_iff_lt_mul
abbrev dH:=@Option.isSome_iff_exists
abbrev dI:=@Int.lt_or_le
abbrev dJ:=@Int.le_trans
abbrev dK:=@Bool.not_true
abbrev dL:=@Int.le_refl
abbrev dM:=@Int.mul_le_mul_of_nonneg_left
abbrev dN:=@List.size_toArray
abbrev dO:=@Nat.min_eq_left
abbrev dP:=@Nat.lt_or_ge
abbrev dQ:=@List.take_of_length_le
abbrev dR:=@List.map_cons
abbrev dS:=@Nat.log2_self_le
abbrev dT:=@Array.getElem?_append_left
abbrev dU:=@List.mem_range
abbrev dV:=@Int.mul_nonpos_of_nonneg_of_nonpos
abbrev dW:=@Array.getElem?_modify
abbrev dX:=@Int.mul_comm
abbrev dY:=@Nat.pow_lt_pow_right
abbrev dZ:=@Int.sub_self
abbrev eC:=@List.getElem?_take_of_lt
abbrev eD:=@Array.getElem?_setIfInBounds_ne
abbrev eE:=@List.cons_append
abbrev eF:=@Nat.zero_mul
abbrev eG:=@Nat.pos_of_ne_zero
abbrev eH:=@Int.natAbs_natCast
abbrev eI:=@List.mem_append_right
abbrev eJ:=@Array.getD_eq_getD_getElem?
abbrev eK:=@Bool.not_eq_true'
abbrev eL:=@List.drop_drop
abbrev eM:=@List.drop_zero
abbrev eN:=@Nat.mod_lt
abbrev eO:=@Bool.not_false
abbrev eP:=@Nat.pow_succ
abbrev eQ:=@Int.natCast_succ
abbrev eR:=@List.pairwise_iff_getElem
abbrev eT:=@List.drop_eq_getElem_cons
abbrev eV:=@Nat.add_assoc
abbrev eW:=@List.eq_of_mem_replicate
abbrev eX:=@List.map_replicate
abbrev eY:=@Bool.false_eq_true
abbrev eZ:=@Nat.lt_of_le_of_lt
abbrev fA:=@List.ext_getElem?
abbrev fB:=@Int.le_total
abbrev fC:=@Nat.lt_trichotomy
abbrev fD:=@Int.le_of_lt
abbrev fE:=@List.getElem?_set_self
abbrev fF:=@Int.mul_ediv_add_emod
abbrev fG:=@Nat.ble_eq_true_of_le
abbrev fH:=@Bool.and_eq_false_iff
abbrev fI:=@List.length_singleton
abbrev fJ:=@List.getElem_mem
abbrev fK:=@List.eq_nil_of_length_eq_zero
abbrev fL:=@List.take_append_of_le_length
abbrev fM:=@List.mem_of_mem_drop
abbrev fN:=@Int.neg_neg
abbrev fO:=@Int.mul_neg
abbrev fP:=@Bool.or_eq_true
abbrev fQ:=@Array.extract_eq_empty_of_le
abbrev fR:=@Int.natCast_mul
abbrev fS:=@List.take_succ_cons
abbrev fT:=@List.filterMap_cons
abbrev fU:=@List.getElem?_take
abbrev fV:=@Int.tmod_lt_of_pos
abbrev fW:=@Bool.false_and
abbrev fX:=@Int.emod_lt_of_pos
abbrev fY:=@Nat.mul_lt_mul_of_pos_left
abbrev fZ:=@Nat.add_sub_cancel
abbrev gA:=@List.filter_append
abbrev gB:=@Int.mul_neg_of_pos_of_neg
abbrev gC:=@Int.le_of_mul_le_mul_left
abbrev gD:=@Nat.one_shiftLeft
abbrev gE:=@List.map_take
abbrev gF:=@List.take_length
abbrev gG:=@Nat.le_add_right
abbrev gH:=@Nat.mul_zero
abbrev gI:=@Nat.div_add_mod
abbrev gJ:=@List.mem_filter
abbrev gK:=@Int.emod_nonneg
abbrev gL:=@Int.natCast_add
abbrev gM:=@List.drop_take
abbrev gN:=@List.take_take
abbrev gO:=@Int.mul_sub
abbrev gP:=@Int.mul_pos
abbrev gQ:=@Int.add_mul
abbrev Value.b (x:Bool):Value:=.bool x
abbrev Value.pt (b n:Nat):Value:=.pointer (some ⟨b,n,none⟩)
abbrev Value.p0 (b:Nat):Value:=.pointer (some ⟨b,0,none⟩)
end Go
namespace Go.Eng
abbrev ZJ:=List (Nat×Value)
def w64 (x:Int):Int:=IntKind.i64.wrap x
def look (t:Nat):ZJ→Option Value
 | []=>none
 | (k,v)::r=>bif Nat.beq k t then some v else look t r
def rho (F:ZJ):Operand→Value
 | .tmp t=>(look t F).getD undef
 | .const v=>v
 | .global g=>.pointer (some ⟨g,0,none⟩)
 | .func f=>.func (.func f) #[] #[]
def known (F:ZJ):Operand→Bool
 | .tmp t=>(look t F).isSome
 | _=>true
structure Fr (n:Nat) (F:ZJ) (a:Act):Prop where
 size:a.tmps.size=n
 defers:a.defers=[]
 has:∀ t v,look t F=some v→a.tmps[t]?=some v
theorem Fr.eval {n:Nat} {F:ZJ} {a:Act} (h:Fr n F a) (x:Operand) (hk:known F x=true):a.eval x=rho F x:=by
 cases x with
 | tmp t =>
  simp only[known] at hk
  obtain⟨v,hv⟩:=Option.isSome_iff_exists.1 hk
  have:=h.has t v hv
  simp only[Act.eval,rho,hv,Option.getD_some]
  rw[Array.getD_eq_getD_getElem?,this];rfl
 | const v=>rfl
 | global g=>rfl
 | func f=>rfl
theorem YI (t:Nat) (v:Value) (F:ZJ):look t ((t,v)::F)=some v:=by
 have:Nat.beq t t=true:=by simp
 simp only[look,this,cond_true]
theorem YV {t k:Nat} (v:Value) (F:ZJ) (h:k≠t):look t ((k,v)::F)=look t F:=by
 have:Nat.beq k t=false:=by
  cases hb:Nat.beq k t with
  | false=>rfl
  | true=>exact absurd (Nat.eq_of_beq_eq_true hb) h
 simp only[look,this,cond_false]
theorem Fr.put {n d:Nat} {F:ZJ} {a:Act} (h:Fr n F a) (hd:d<n) (v:Value):Fr n ((d,v)::F) (a.put (some d) v):=by
 refine⟨by simpa[Act.put] using h.size,by simpa[Act.put] using h.defers,fun t u ht=>?_⟩
 by_cases e:d=t
 ·subst e
  rw[YI] at ht
  have hs:=h.size
  simp only[Option.some.injEq] at ht
  subst ht
  simp[Act.put,hs,hd]
 ·rw[YV v F e] at ht
  have:=h.has t u ht
  simp[Act.put,Array.getElem?_setIfInBounds_ne e,this]
def pick:List Nat→ZJ→Option ZJ
 | [],_=>some []
 | k::ks,G=>match look k G with
  | some v=>match pick ks G with
   | some r=>some ((k,v)::r)
   | none=>none
  | none=>none
theorem JQ:∀ (ks:List Nat) (G F:ZJ),pick ks G=some F→∀ t v,look t F=some v→look t G=some v
 | [],G,F,h,t,v,hl=>by simp only[pick,Option.some.injEq] at h;subst h;cases hl
 | k::ks,G,F,h,t,v,hl=>by
  simp only[pick] at h
  split at h
  ·rename_i u hu
   split at h
   ·rename_i r hr
    simp only[Option.some.injEq] at h;subst h
    by_cases e:k=t
    ·subst e;rw[YI] at hl;rw[hu];exact hl
    ·rw[YV u r e] at hl;exact JQ ks G r hr t v hl
   ·cases h
  ·cases h
theorem Fr.sub {n:Nat} {G F:ZJ} {a:Act} (h:Fr n G a) (hs:∀ t v,look t F=some v→look t G=some v):Fr n F a :=
 ⟨h.size,h.defers,fun t v ht=>h.has t v (hs t v ht)⟩
structure Ctx where
 w0:World
 D:Nat→Prop
def no:Nat→Prop:=fun _=>False
def cx (w:World):Ctx:=⟨w,no⟩
structure Below (B:Nat) (w w':World):Prop where
 os:w'.os=w.os
 tape:w'.tape=w.tape
 output:w'.output=w.output
 size:w.heap.size≤w'.heap.size
 block:∀ k,k<B→w'.heap[k]?=w.heap[k]?
 drawn:w.drawn≤w'.drawn
theorem Below.refl (B:Nat) (w:World):Below B w w:=⟨rfl,rfl,rfl,Nat.le_refl _,fun _ _=>rfl,Nat.le_refl _⟩
theorem Below.kit {B:Nat} {w w':World} (h:Below B w w'):Go.RowKit.Below B w w':=⟨h.os,h.tape,h.output,h.size,h.block⟩
theorem Below.trans {B:Nat} {a b c:World} (h:Below B a b) (k:Below B b c):Below B a c :=
 ⟨k.os.trans h.os,k.tape.trans h.tape,k.output.trans h.output,Nat.le_trans h.size k.size,fun i hi=>(k.block i hi).trans (h.block i hi),Nat.le_trans h.drawn k.drawn⟩
theorem Below.drew {B:Nat} {a w:World} (h:Below B a w):Below B a w.drew:=⟨h.os,h.tape,h.output,h.size,h.block,Nat.le_trans h.drawn (Nat.le_succ _)⟩
theorem Below.alloc {B:Nat} {a w:World} (h:Below B a w) (hB:B≤w.heap.size) (o:Obj):Below B a (w.alloc o) :=
 h.trans ⟨rfl,rfl,rfl,by simp,fun k hk=>Go.RowKit.Below.heap_alloc _ _ _ (by omega),Nat.le_refl _⟩
theorem Below.cell {B:Nat} {w w':World} (h:Below B w w') {a:Addr} (ha:a.block<B):w'.cell? a=w.cell? a:=h.kit.cell ha
structure Chg (D:Nat→Prop) (w w':World):Prop where
 os:w'.os=w.os
 tape:w'.tape=w.tape
 output:w'.output=w.output
 size:w.heap.size≤w'.heap.size
 block:∀ k,k<w.heap.size→¬ D k→w'.heap[k]?=w.heap[k]?
 drawn:w.drawn≤w'.drawn
theorem Chg.refl (D:Nat→Prop) (w:World):Chg D w w:=⟨rfl,rfl,rfl,Nat.le_refl _,fun _ _ _=>rfl,Nat.le_refl _⟩
theorem Chg.below {w w':World} (h:Chg no w w'):Below w.heap.size w w':=⟨h.os,h.tape,h.output,h.size,fun k hk=>h.block k hk (fun h=>h),h.drawn⟩
theorem Chg.of_below {D:Nat→Prop} {w w':World} (h:Below w.heap.size w w'):Chg D w w':=⟨h.os,h.tape,h.output,h.size,fun k hk _=>h.block k hk,h.drawn⟩
structure Res where
 foot:Nat→Prop
 holds:World→Prop
 lt:∀ w,holds w→∀ b,foot b→b<w.heap.size
 kept:∀ w w',holds w→(∀ b,foot b→w'.heap[b]?=w.heap[b]?)→holds w'
abbrev Ent:=(Nat×Obj) ⊕ Res
abbrev Mem:=List Ent
abbrev Pa (b:Nat):Option Addr:=some ⟨b,0,none⟩
abbrev Bk (b:Nat) (c:Array Value) (T:Nat):Ent:=.inl (b,.cells c T (0,0))
abbrev AN:=Option Addr×Nat
theorem Kr {α:Sort _} {a b:α} (h:a=b:=by kernel_rfl):a=b:=h
def VF:Ent→Nat→Prop
 | .inl p=>fun b=>b=p.1
 | .inr r=>r.foot
def VV:Ent→World→Prop
 | .inl p,w=>w.heap[p.1]?=some p.2
 | .inr r,w=>r.holds w
def US (e f:Ent):Prop:=∀ b,VF e b→¬ VF f b
theorem US.symm {e f:Ent} (h:US e f):US f e:=fun b h1 h2=>h b h2 h1
theorem Us {w:World} {b:Nat} {o:Obj} (h:w.heap[b]?=some o):b<w.heap.size:=by
 rcases Nat.lt_or_ge b w.heap.size with hl|hg
 ·exact hl
 ·rw[Array.getElem?_eq_none hg] at h;cases h
theorem ltE {e:Ent} {w:World} (h:VV e w):∀ b,VF e b→b<w.heap.size:=by
 cases e with
 | inl p=>intro b hb;simp only[VF] at hb;subst hb;exact Us h
 | inr r=>exact r.lt w h
theorem SB {e:Ent} {w w':World} (h:VV e w) (hk:∀ b,VF e b→w'.heap[b]?=w.heap[b]?):VV e w':=by
 cases e with
 | inl p=>exact(hk p.1 rfl).trans h
 | inr r=>exact r.kept w w' h hk
structure Sat (w0:Ctx) (M:Mem) (w:World):Prop where
 chg:Chg w0.D w0.w0 w
 own:∀ e∈M,VV e w∧∀ b,VF e b→w0.D b∨w0.w0.heap.size≤b
 apart:M.Pairwise US
theorem Sat.start (w:World):Sat (cx w) [] w:=⟨Chg.refl _ _,by simp,.nil⟩
theorem Sat.below {w:World} {M:Mem} {w':World} (h:Sat (cx w) M w'):Below w.heap.size w w':=h.chg.below
theorem Sat.block {w0:Ctx} {w:World} {M:Mem} (h:Sat w0 M w) {b:Nat} {o:Obj} (hp:Sum.inl (b,o)∈M):w.heap[b]?=some o:=(h.own _ hp).1
theorem Sat.lt {w0:Ctx} {w:World} {M:Mem} (h:Sat w0 M w) {b:Nat} {o:Obj} (hp:Sum.inl (b,o)∈M):b<w.heap.size:=Us (h.block hp)
theorem Sat.later {w0:Ctx} {w w':World} {M:Mem} (h:Sat w0 M w) (hb:Below w.heap.size w w'):Sat w0 M w' :=
 ⟨⟨hb.os.trans h.chg.os,hb.tape.trans h.chg.tape,hb.output.trans h.chg.output,Nat.le_trans h.chg.size hb.size,fun k hk hd=>(hb.block k (Nat.lt_of_lt_of_le hk h.chg.size)).trans (h.chg.block k hk hd),Nat.le_trans h.chg.drawn hb.drawn⟩,
  fun e he=>⟨SB (h.own e he).1 fun b hf=>hb.block b (ltE (h.own e he).1 b hf),(h.own e he).2⟩,h.apart⟩
theorem Sat.sub {w0:Ctx} {w:World} {M M':Mem} (h:Sat w0 M w) (hs:M'.Sublist M):Sat w0 M' w :=
 ⟨h.chg,fun p hp=>h.own p (hs.subset hp),h.apart.sublist hs⟩
theorem Sat.perm {w0:Ctx} {w:World} {M M':Mem} (h:Sat w0 M w) (hs:M.Perm M'):Sat w0 M' w :=
 ⟨h.chg,fun p hp=>h.own p (hs.mem_iff.2 hp),(hs.pairwise_iff (fun {_ _} h=>US.symm h)).1 h.apart⟩
theorem Sat.push {w0:Ctx} {w w':World} {M:Mem} (h:Sat w0 M w) (hb:Below w.heap.size w w') (e:Ent) (he:VV e w') (hf:∀ b,VF e b→w.heap.size≤b):Sat w0 (e::M) w':=by
 have h2:=h.later hb
 refine⟨h2.chg,fun p hp=>?_,?_⟩
 ·rcases List.mem_cons.1 hp with rfl|hp
  ·exact⟨he,fun b hb=>.inr (Nat.le_trans h.chg.size (hf b hb))⟩
  ·exact h2.own p hp
 ·refine List.pairwise_cons.2 ⟨fun f hfm b h1 h3=>?_,h.apart⟩
  have:=ltE (h.own f hfm).1 b h3
  have:=hf b h1
  omega
theorem M9 (w:World) (o:Obj):Below w.heap.size w (w.alloc o):=(Below.refl _ _).alloc (Nat.le_refl _) o
theorem Sat.alloc {w0:Ctx} {w:World} {M:Mem} (h:Sat w0 M w) (o:Obj):Sat w0 (.inl (w.heap.size,o)::M) (w.alloc o) :=
 h.push (M9 w o) _ (heap_alloc_new w o) (fun b hb=>by simp only[VF] at hb;omega)
theorem Sat.drawn {w0:Ctx} {w:World} {M:Mem} (h:Sat w0 M w) (k:Nat) (hk:w.drawn≤k:=by exact Nat.le_succ _):Sat w0 M { w with drawn:=k } :=
 h.later ⟨rfl,rfl,rfl,Nat.le_refl _,fun _ _=>rfl,hk⟩
theorem FT {R:Ent→Ent→Prop} (hs:∀ {a b},R a b→R b a) {M:Mem} (h:M.Pairwise R) {j:Nat} {e':Ent} (he:∀ i f,M[i]?=some f→i≠j→R e' f):(M.set j e').Pairwise R:=by
 rw[List.pairwise_iff_getElem] at h ⊢
 intro i k hi hk hik
 simp only[List.length_set] at hi hk
 rw[List.getElem_set,List.getElem_set]
 by_cases e1:j=i
 ·subst e1
  rw[if_pos rfl,if_neg (by omega)]
  exact he k _ (List.getElem?_eq_getElem hk) (by omega)
 ·rw[if_neg e1]
  by_cases e2:j=k
  ·subst e2
   rw[if_pos rfl]
   exact hs (he i _ (List.getElem?_eq_getElem hi) (by omega))
  ·rw[if_neg e2]
   exact h i k hi hk hik
theorem MA {M:Mem} (h:M.Pairwise US) {i j:Nat} {e f:Ent} (hi:M[i]?=some e) (hj:M[j]?=some f) (hne:i≠j):US e f:=by
 rw[List.pairwise_iff_getElem] at h
 obtain⟨a1,rfl⟩:=List.getElem?_eq_some_iff.1 hi
 obtain⟨a2,rfl⟩:=List.getElem?_eq_some_iff.1 hj
 rcases Nat.lt_or_gt_of_ne hne with hl|hl
 ·exact h i j a1 a2 hl
 ·exact(h j i a2 a1 hl).symm
theorem Sat.step {w0:Ctx} {w w':World} {M:Mem} (h:Sat w0 M w) {j:Nat} {e e':Ent} (hj:M[j]?=some e) (hc:Chg (VF e) w w') (he:VV e' w')
  (hf:∀ b,VF e' b→VF e b∨w.heap.size≤b):Sat w0 (M.set j e') w':=by
 have sw:=List.mem_of_getElem? hj
 have tp:=h.own _ sw
 refine⟨⟨hc.os.trans h.chg.os,hc.tape.trans h.chg.tape,hc.output.trans h.chg.output,Nat.le_trans h.chg.size hc.size,fun k hk hd=>?_,Nat.le_trans h.chg.drawn hc.drawn⟩,fun f hfm=>?_,FT US.symm h.apart ?_⟩
 ·refine(hc.block k (Nat.lt_of_lt_of_le hk h.chg.size) fun hfk=>?_).trans (h.chg.block k hk hd)
  rcases tp.2 k hfk with h1|h1
  ·exact hd h1
  ·omega
 ·obtain⟨i,hi⟩:=List.getElem?_of_mem hfm
  rw[List.getElem?_set] at hi
  by_cases e1:j=i
  ·rw[if_pos e1] at hi
   split at hi
   ·simp only[Option.some.injEq] at hi
    subst hi
    refine⟨he,fun b hb=>?_⟩
    rcases hf b hb with h1|h1
    ·exact tp.2 b h1
    ·exact .inr (Nat.le_trans h.chg.size h1)
   ·cases hi
  ·rw[if_neg e1] at hi
   have hfo:=h.own f (List.mem_of_getElem? hi)
   exact⟨SB hfo.1 fun b hb=>hc.block b (ltE hfo.1 b hb) fun hb2=>MA h.apart hj hi e1 b hb2 hb,hfo.2⟩
 ·intro i f hi hne b h1 h2
  rcases hf b h1 with h3|h3
  ·exact MA h.apart hj hi (Ne.symm hne) b h3 h2
  ·have:=ltE (h.own f (List.mem_of_getElem? hi)).1 b h2
   omega
theorem Sat.store {w0:Ctx} {w:World} {M:Mem} (h:Sat w0 M w) {j b:Nat} {c:Array Value} {T:TypeId} (hj:M[j]?=some (.inl (b,.cells c T (0,0)))) {x:Addr} (hx:x.block=b)
  (hs:x.spot=none) (v:Value):Sat w0 (M.set j (.inl (b,.cells (c.setIfInBounds x.off v) T (0,0)))) (w.setCell x v):=by
 have hb:=h.block (List.mem_of_getElem? hj)
 refine h.step hj ⟨rfl,rfl,rfl,by simp[World.setCell],fun k _ hk=>Go.RowKit.Below.heap_setCell _ _ _ _ (fun e=>hk (by rw[e,hx];rfl)),Nat.le_refl _⟩ ?_ (fun b' hb'=>.inl hb')
 simp[VV,World.setCell,Array.getElem?_modify,hx,hb,hs]
def mr {α:Type} (P:Program) (M:Mem) (j:Nat):Sem α→Option (α×List (Nat×Nat))
 | .pure a=>some (a,[])
 | .program k=>mr P M j (k P)
 | .mark _ k=>mr P M j k
 | .load _ a k=>match M[j]? with
  | some (.inl (b,.cells c _ _))=>match a.spot with
   | none=>match c[a.off]? with
    | some v=>match mr P M j (k v) with
     | some (r,es)=>some (r,(a.block,b)::es)
     | none=>none
    | none=>none
   | some _=>none
  | _=>none
 | .shape r k=>match M[j]? with
  | some (.inl (b,.cells c T _))=>match mr P M j (k (some (T,c.size))) with
   | some (x,es)=>some (x,(r,b)::es)
   | none=>none
  | _=>none
 | _=>none
theorem QZ {α:Type} {P:Program} {w0:Ctx} {w:World} {M:Mem} {j:Nat} (h:Sat w0 M w) (s:Sem α) :
  ∀ (v:α) (es:List (Nat×Nat)),mr P M j s=some (v,es)→(∀ p∈es,p.1=p.2)→s.run P w=.ok v w:=by
 induction s with
 | pure a=>intro v es hr _;simp only[mr,Option.some.injEq,Prod.mk.injEq] at hr;obtain⟨rfl,rfl⟩:=hr;rfl
 | program k ih=>intro v es hr he;exact ih P v es hr he
 | mark m k ih=>intro v es hr he;exact ih v es hr he
 | load m a k ih =>
  intro v es hr he
  simp only[mr] at hr
  split at hr
  ·rename_i b c T fz hj
   split at hr
   ·rename_i hsp
    split at hr
    ·rename_i u hu
     split at hr
     ·rename_i r es' hk
      simp only[Option.some.injEq,Prod.mk.injEq] at hr
      obtain⟨rfl,rfl⟩:=hr
      have hab:a.block=b:=he (a.block,b) (by simp)
      have yi:w.cell? a=some u:=by
       have:=h.block (List.mem_of_getElem? hj)
       simp[World.cell?,hab,this,hsp,hu]
      simp only[Sem.run,yi]
      exact ih u _ _ hk (fun p hp=>he p (by simp[hp]))
     ·cases hr
    ·cases hr
   ·cases hr
  ·cases hr
 | shape r k ih =>
  intro v es hr he
  simp only[mr] at hr
  split at hr
  ·rename_i b c T fz hj
   split at hr
   ·rename_i x es' hk
    simp only[Option.some.injEq,Prod.mk.injEq] at hr
    obtain⟨rfl,rfl⟩:=hr
    have hab:r=b:=he (r,b) (by simp)
    have hsh:w.shape? r=some (T,c.size):=by
     have:=h.block (List.mem_of_getElem? hj)
     simp[World.shape?,hab,this]
    simp only[Sem.run,hsh]
    exact ih _ _ _ hk (fun p hp=>he p (by simp[hp]))
   ·cases hr
  ·cases hr
 | _=>intro v es hr _;simp only[mr] at hr;cases hr
def FU:Value→Bool
 | .agg _=>false
 | .tuple _=>false
 | _=>true
def mw {α:Type} (P:Program) (j b:Nat):Sem α→Mem→Option (α×Mem×List (Nat×Nat))
 | .pure a,M=>some (a,M,[])
 | .program k,M=>mw P j b (k P) M
 | .mark _ k,M=>mw P j b k M
 | .load _ a k,M=>match M[j]? with
  | some (.inl (b',.cells c _ _))=>match a.spot with
   | none=>match c[a.off]? with
    | some v=>match mw P j b (k v) M with
     | some (r,M',es)=>some (r,M',(a.block,b')::es)
     | none=>none
    | none=>none
   | some _=>none
  | _=>none
 | .store _ a v k,M=>match FU v with
  | false=>none
  | true=>match M[j]? with
   | some (.inl (b',.cells c T (0,0)))=>match a.spot with
    | none=>match c[a.off]? with
     | some _=>match mw P j b k (M.set j (.inl (b',.cells (c.setIfInBounds a.off v) T (0,0)))) with
      | some (r,M',es)=>some (r,M',(a.block,b')::es)
      | none=>none
     | none=>none
    | some _=>none
   | _=>none
 | .new o k,M=>match mr P M j (k b) with
  | some (r,es)=>some (r,.inl (b,o)::M,es)
  | none=>none
 | _,_=>none
theorem Bc {α:Type} (P:Program) (w:World) (m:Mode) (a:Addr) (v u:Value) (k:Sem α) (hp:FU v=true) (hc:w.cell? a=some u) (hf:w.frozen? a=false) :
  (Sem.store m a v k).run P w=k.run P (w.setCell a v):=by
 cases v <;> simp[FU] at hp <;> simp[Sem.run,hc,hf]
theorem VW {α:Type} {P:Program} {w0:Ctx} {j b:Nat} (s:Sem α) :
  ∀ (M:Mem) (w:World) (v:α) (M':Mem) (es:List (Nat×Nat)),Sat w0 M w→b=w.heap.size→mw P j b s M=some (v,M',es)→(∀ p∈es,p.1=p.2) →
   ∃ w',s.run P w=.ok v w'∧Sat w0 M' w':=by
 induction s with
 | pure a=>intro M w v M' es h _ hr _;simp only[mw,Option.some.injEq,Prod.mk.injEq] at hr;obtain⟨rfl,rfl,rfl⟩:=hr;exact⟨w,rfl,h⟩
 | program k ih=>intro M w v M' es h hb hr he;exact ih P M w v M' es h hb hr he
 | mark m k ih=>intro M w v M' es h hb hr he;exact ih M w v M' es h hb hr he
 | load m a k ih =>
  intro M w v M' es h hbw hr he
  simp only[mw] at hr
  split at hr
  ·rename_i b' c T fz hj
   split at hr
   ·rename_i hsp
    split at hr
    ·rename_i u hu
     split at hr
     ·rename_i r M2 es' hk
      simp only[Option.some.injEq,Prod.mk.injEq] at hr
      obtain⟨rfl,rfl,rfl⟩:=hr
      have hab:a.block=b':=he (a.block,b') (by simp)
      have yi:w.cell? a=some u:=by
       have:=h.block (List.mem_of_getElem? hj)
       simp[World.cell?,hab,this,hsp,hu]
      simp only[Sem.run,yi]
      exact ih u M w _ _ _ h hbw hk (fun p hp=>he p (by simp[hp]))
     ·cases hr
    ·cases hr
   ·cases hr
  ·cases hr
 | store m a x k ih =>
  intro M w v M' es h hbw hr he
  simp only[mw] at hr
  split at hr
  ·cases hr
  ·rename_i hpl
   split at hr
   ·rename_i b' c T hj
    split at hr
    ·rename_i hsp
     split at hr
     ·rename_i u hu
      split at hr
      ·rename_i r M2 es' hk
       simp only[Option.some.injEq,Prod.mk.injEq] at hr
       obtain⟨rfl,rfl,rfl⟩:=hr
       have hab:a.block=b':=he (a.block,b') (by simp)
       have hblk:=h.block (List.mem_of_getElem? hj)
       have yi:w.cell? a=some u:=by simp[World.cell?,hab,hblk,hsp,hu]
       have hfz:w.frozen? a=false:=by simp[World.frozen?,hab,hblk]
       rw[Bc P w m a x u k hpl yi hfz]
       exact ih _ (w.setCell a x) _ _ _ (h.store hj hab hsp x) (by simpa[World.setCell] using hbw) hk (fun p hp=>he p (by simp[hp]))
      ·cases hr
     ·cases hr
    ·cases hr
   ·cases hr
 | new o k ih =>
  intro M w v M' es h hbw hr he
  simp only[mw] at hr
  split at hr
  ·rename_i r es' hk
   simp only[Option.some.injEq,Prod.mk.injEq] at hr
   obtain⟨rfl,rfl,rfl⟩:=hr
   subst hbw
   have h2:=h.alloc o
   refine⟨w.alloc o,?_,h2⟩
   have h3:Sat w0 M (w.alloc o):=h2.sub (List.sublist_cons_self _ _)
   exact QZ h3 (k w.heap.size) _ _ hk he
  ·cases hr
 | _=>intro M w v M' es _ _ hr _;simp only[mw] at hr;cases hr
end Go.Eng
end
section
namespace Go.Eng
def UB (ops:List Oper) (F:ZJ) (o:Oper):Option Bool :=
 match o.guard with
 | none=>some true
 | some (j,want)=>match (ops[j]?).bind (·.dst) with
  | none=>some false
  | some d=>match look d F with
   | some (.bool b)=>some (b==want)
   | some _=>some false
   | none=>none
theorem QF {ops:Array Oper} {F:ZJ} {o:Oper} {n:Nat} {a:Act} {g:Bool} (h:Fr n F a) (hg:UB ops.toList F o=some g) :
  Region.wanted o (yielded ops a.tmps)=g:=by
 unfold UB at hg
 unfold Region.wanted
 split at hg
 ·rename_i h0;rw[h0];simpa using hg
 ·rename_i j want h0
  rw[h0]
  simp only
  rw[aZ] at hg
  split at hg
  ·rename_i hd
   simp only[aD] at hg
   subst hg
   simp[yielded,hd]
  ·rename_i d hd
   split at hg
   ·rename_i b hb
    simp only[aD] at hg
    subst hg
    have:=h.has _ _ hb
    simp only[yielded,hd,Option.bind_some,this]
    cases b <;> cases want <;> rfl
   ·rename_i v hnb hv
    simp only[aD] at hg
    subst hg
    have:=h.has _ _ hv
    simp only[yielded,hd,Option.bind_some,this]
    cases v <;> first|rfl|(exact absurd rfl (hnb _))
   ·cases hg
def Gv (n:Nat) (F:ZJ) (dst:Option Tmp) (v:Value):Option ZJ :=
 match dst with
 | none=>some F
 | some d=>bif Nat.blt d n then some ((d,v)::F) else none
theorem KH {n:Nat} {F F':ZJ} {dst:Option Tmp} {v:Value} {a:Act} (h:Fr n F a) (hp:Gv n F dst v=some F'):Fr n F' (a.put dst v):=by
 unfold Gv at hp
 split at hp
 ·simp only[aD] at hp;subst hp;exact h
 ·rename_i d
  cases hb:Nat.blt d n with
  | true =>
   rw[hb] at hp
   simp only[cond_true,aD] at hp
   subst hp
   exact h.put (aL hb) v
  | false=>rw[hb] at hp;cases hp
def KZ:Op→Bool
 | .select _ _=>true
 | _=>false
def MB (P:Program) (M:Mem) (F:ZJ) (j:Nat) (o:Oper):Option (Value×List (Nat×Nat)) :=
 bif o.op.operands.toList.all (known F)&&!KZ o.op then
  match mr P M j (execOp (rho F) o) with
  | some (.value v,es)=>some (v,es)
  | some (.skip,es)=>some (undef,es)
  | _=>none
 else none
def Ij:Op→Bool
 | .load _ _=>true
 | _=>false
def Vm (P:Program) (n:Nat) (ops:List Oper) (M:Mem):List Oper→List Nat→ZJ→Option (ZJ×List (Nat×Nat))
 | [],_,F=>some (F,[])
 | o::r,hs,F=>match UB ops F o with
  | some true=>match MB P M F (hs.headD 0) o with
   | some (v,es)=>match Gv n F o.dst v with
    | some F'=>match Vm P n ops M r (bif Ij o.op then hs.tail else hs) F' with
     | some (G,es')=>some (G,es++es')
     | none=>none
    | none=>none
   | none=>none
  | some false=>match Gv n F o.dst undef with
   | some F'=>Vm P n ops M r hs F'
   | none=>none
  | none=>none
theorem Wx {n:Nat} {F:ZJ} {a:Act} (h:Fr n F a) (o:Oper) (hk:o.op.operands.toList.all (known F)=true) (hs:KZ o.op=false) :
  execOp a.eval o=execOp (rho F) o :=
 execOp_congr o (fun cs b e=>by rw[e] at hs;cases hs) fun x hx=>h.eval x (bC.1 hk x (by simpa using hx))
theorem Gy {P:Program} {w0:Ctx} {w:World} {n:Nat} {M:Mem} {F:ZJ} {j:Nat} {o:Oper} {v:Value} {es:List (Nat×Nat)} {a:Act} (hF:Fr n F a) (hM:Sat w0 M w)
  (h:MB P M F j o=some (v,es)) (he:∀ p∈es,p.1=p.2):(execOp a.eval o).run P w=.ok (.value v) w∨((execOp a.eval o).run P w=.ok .skip w∧v=undef):=by
 unfold MB at h
 cases hb:(o.op.operands.toList.all (known F)&&!KZ o.op) with
 | false=>rw[hb] at h;cases h
 | true =>
  rw[hb] at h
  simp only[cond_true] at h
  simp only[aW,eK] at hb
  rw[Wx hF o hb.1 hb.2]
  split at h
  ·rename_i u es' hm
   simp only[aD,aU] at h
   obtain⟨rfl,rfl⟩:=h
   exact .inl (QZ hM _ _ _ hm he)
  ·rename_i es' hm
   simp only[aD,aU] at h
   obtain⟨rfl,rfl⟩:=h
   exact .inr ⟨QZ hM _ _ _ hm he,rfl⟩
  ·cases h
def TL (P:Program) (n:Nat) (w0:Ctx) (ops:Array Oper) (Q:Exit→Act→World→Prop) (i:Nat) (F:ZJ) (M:Mem):Prop :=
 ∀ a w,Fr n F a→Sat w0 M w→wpList P ops Q (ops.toList.drop i) a w
def TC (P:Program) (n:Nat) (w0:Ctx) (Q:Exit→Act→World→Prop) (c:Code) (F:ZJ) (M:Mem):Prop :=
 ∀ a w,Fr n F a→Sat w0 M w→c.wp P Q a w
def TE (n:Nat) (w0:Ctx) (Q:Exit→Act→World→Prop) (e:Exit) (F:ZJ) (M:Mem):Prop :=
 ∀ a w,Fr n F a→Sat w0 M w→Q e a w
def TQ (P:Program) (n:Nat) (w0:Ctx) (ops:Array Oper) (Q:Act→Prop) (N i:Nat) (F:ZJ) (M:Mem):Prop :=
 ∀ a,Fr n F a→wpQuiet P ops (Sat w0 M) Q ((ops.toList.take N).drop i) a
section
variable {P:Program} {n:Nat} {w0:Ctx} {ops:Array Oper} {Q:Exit→Act→World→Prop} {F F':ZJ} {M M':Mem}
theorem XU {o:Oper} {rest:List Oper} {a:Act} {w:World} (hw:Region.wanted o (yielded ops a.tmps)=true) (h:o.wp P a w (wpList P ops Q rest) Q) :
  wpList P ops Q (o::rest) a w:=by
 unfold wpList;rw[if_pos hw];exact .inl h
theorem Ut:∀ (l:List Oper) (hs:List Nat) (F G:ZJ) (es:List (Nat×Nat)) (rest:List Oper) (a:Act) (w:World),Fr n F a→Sat w0 M w →
  Vm P n ops.toList M l hs F=some (G,es)→(∀ p∈es,p.1=p.2)→(∀ a',Fr n G a'→wpList P ops Q rest a' w)→wpList P ops Q (l++rest) a w
 | [],hs,F,G,es,rest,a,w,hF,hM,h,he,hk=>by
  simp only[Vm,aD,aU] at h
  obtain⟨rfl,rfl⟩:=h
  exact hk a hF
 | o::l,hs,F,G,es,rest,a,w,hF,hM,h,he,hk=>by
  simp only[Vm] at h
  split at h
  ·rename_i hg
   have hw:=QF hF hg
   split at h
   ·rename_i v es1 hv
    split at h
    ·rename_i F1 hF1
     split at h
     ·rename_i G' es2 hr
      simp only[aD,aU] at h
      obtain⟨rfl,rfl⟩:=h
      have ih:=Ut l _ F1 G' es2 rest (a.put o.dst v) w (KH hF hF1) hM hr (fun p hp=>he p (by simp[hp])) hk
      refine XU hw ?_
      unfold Oper.wp
      rcases Gy hF hM hv (fun p hp=>he p (by simp[hp])) with e|⟨e,rfl⟩
      ·rw[e];exact ih
      ·rw[e];exact ih
     ·cases h
    ·cases h
   ·cases h
  ·rename_i hg
   have hw:=QF hF hg
   split at h
   ·rename_i F1 hF1
    have ih:=Ut l _ F1 G es rest (a.put o.dst undef) w (KH hF hF1) hM h he hk
    show wpList P ops Q (o::(l++rest)) a w
    unfold wpList
    rw[hw]
    simpa using ih
   ·cases h
  ·cases h
def BA {α:Type}:Option (α×List (Nat×Nat))→List Nat
 | some (_,es)=>es.map Prod.fst
 | none=>[]
def Wy {α:Type}:Option (α×List (Nat×Nat))→List Nat
 | some (_,es)=>es.map Prod.snd
 | none=>[]
def EV (F':ZJ):Option (ZJ×List (Nat×Nat))→Option ZJ
 | some (G,_)=>pick (F'.map Prod.fst) G
 | none=>none
structure OkR (r:Option (ZJ×List (Nat×Nat))) (F':ZJ):Prop where
 fst:EV F' r=some F':=by kernel_rfl
 snd:BA r=Wy r:=by kernel_rfl
theorem UT:∀ (es:List (Nat×Nat)),es.map Prod.fst=es.map Prod.snd→∀ p∈es,p.1=p.2
 | [],_,p,hp=>by cases hp
 | q::es,h,p,hp=>by
  simp only[dR,List.cons.injEq] at h
  rcases bA.1 hp with rfl|hp
  ·exact h.1
  ·exact UT es h.2 p hp
theorem BB {r:Option (ZJ×List (Nat×Nat))} (h:OkR r F'):∃ G es,r=some (G,es)∧(∀ p∈es,p.1=p.2)∧∀ t v,look t F'=some v→look t G=some v:=by
 obtain⟨h1,h2⟩:=h
 cases r with
 | none=>cases h1
 | some x=>exact⟨x.1,x.2,rfl,UT _ h2,JQ _ _ _ h1⟩
theorem UF (l:List Oper) {i k:Nat} (h:i≤k):l.drop i=(l.drop i).take (k-i)++l.drop k:=by
 have:l.drop k=(l.drop i).drop (k-i):=by rw[eL];congr 1;omega
 rw[this,List.take_append_drop]
theorem TL.run (k:Nat) (hs:List Nat) (F':ZJ) {i:Nat} (hik:Nat.ble i k=true) (hr:OkR (Vm P n ops.toList M ((ops.toList.drop i).take (k-i)) hs F) F')
  (h:TL P n w0 ops Q k F' M):TL P n w0 ops Q i F M:=by
 intro a w hF hM
 obtain⟨G,es,hG,he,kr⟩:=BB hr
 rw[UF ops.toList (aL hik)]
 exact Ut _ _ _ _ _ _ a w hF hM hG he (fun a' ha'=>h a' w (ha'.sub kr) hM)
theorem Yo (t:Nat) (b:Bool) {i:Nat} (ht:look t F=some (.bool b)) (h1:b=true→TL P n w0 ops Q i ((t,.bool true)::F) M)
  (h2:b=false→TL P n w0 ops Q i ((t,.bool false)::F) M):TL P n w0 ops Q i F M:=by
 have key:∀ (c:Bool),b=c→∀ a,Fr n F a→Fr n ((t,.bool c)::F) a:=by
  rintro c rfl a hF
  refine hF.sub fun s v hv=>?_
  by_cases e:t=s
  ·subst e;rw[YI] at hv;rw[ht];exact hv
  ·rw[YV _ _ e] at hv;exact hv
 intro a w hF hM
 cases hb:b with
 | true=>exact h1 hb a w (key true hb a hF) hM
 | false=>exact h2 hb a w (key false hb a hF) hM
theorem VR (t:Nat) (b:Bool) (k:Nat) (hs1 hs2:List Nat) (G:Bool→ZJ) {i:Nat} (ht:look t F=some (.bool b)) (hik:Nat.ble i k=true)
  (h1:OkR (Vm P n ops.toList M ((ops.toList.drop i).take (k-i)) hs1 ((t,.bool true)::F)) (G true))
  (h2:OkR (Vm P n ops.toList M ((ops.toList.drop i).take (k-i)) hs2 ((t,.bool false)::F)) (G false))
  (h:TL P n w0 ops Q k (G b) M):TL P n w0 ops Q i F M:=by
 refine Yo t b ht (fun e=>?_) (fun e=>?_)
 ·subst e;exact TL.run k hs1 (G true) hik h1 h
 ·subst e;exact TL.run k hs2 (G false) hik h2 h
def opAt (ops:List Oper) (F:ZJ) (i:Nat):Option Oper :=
 match ops[i]? with
 | some o=>match UB ops F o with
  | some true=>bif o.op.operands.toList.all (known F)&&!KZ o.op then some o else none
  | _=>none
 | none=>none
theorem Tq {i:Nat} {o:Oper} {a:Act} (hF:Fr n F a) (h:opAt ops.toList F i=some o) :
  ops.toList.drop i=o::ops.toList.drop (i+1)∧Region.wanted o (yielded ops a.tmps)=true∧execOp a.eval o=execOp (rho F) o:=by
 unfold opAt at h
 split at h
 ·rename_i o' ho
  split at h
  ·rename_i hg
   cases hb:(o'.op.operands.toList.all (known F)&&!KZ o'.op) with
   | false=>rw[hb] at h;cases h
   | true =>
    rw[hb] at h
    simp only[cond_true,aD] at h
    subst h
    simp only[aW,eK] at hb
    refine⟨?_,QF hF hg,Wx hF _ hb.1 hb.2⟩
    obtain⟨hlt,dd⟩:=aK.1 ho
    rw[eT hlt,dd]
  ·cases h
 ·cases h
def semAt (ops:List Oper) (F:ZJ) (i:Nat):Option (Sem Next×Option Tmp) :=
 match opAt ops F i with
 | some o=>some (execOp (rho F) o,o.dst)
 | none=>none
theorem QU {i:Nat} {s:Sem Next} {d:Option Tmp} {a:Act} (hF:Fr n F a) (h:semAt ops.toList F i=some (s,d)) :
  ∃ o,ops.toList.drop i=o::ops.toList.drop (i+1)∧Region.wanted o (yielded ops a.tmps)=true∧execOp a.eval o=s∧o.dst=d:=by
 unfold semAt at h
 split at h
 ·rename_i o ho
  simp only[aD,aU] at h
  obtain⟨h1,h2,h3⟩:=Tq hF ho
  exact⟨o,h1,h2,h3.trans h.1,h.2⟩
 ·cases h
def Tt (P:Program) (n:Nat) (ops:List Oper) (F:ZJ) (M:Mem) (j b i:Nat):Option ((ZJ×Mem)×List (Nat×Nat)) :=
 match semAt ops F i with
 | some (s,d)=>match mw P j b s M with
  | some (.value v,m,es)=>match Gv n F d v with|some G=>some ((G,m),es)|none=>none
  | some (.skip,m,es)=>match Gv n F d undef with|some G=>some ((G,m),es)|none=>none
  | _=>none
 | none=>none
def EW (F':ZJ):Option ((ZJ×Mem)×List (Nat×Nat))→Option (ZJ×Mem)
 | some ((G,m),_)=>match pick (F'.map Prod.fst) G with
  | some f=>some (f,m)
  | none=>none
 | none=>none
structure OkW (r:Option ((ZJ×Mem)×List (Nat×Nat))) (F':ZJ) (M':Mem):Prop where
 fst:EW F' r=some (F',M'):=by kernel_rfl
 snd:BA r=Wy r:=by kernel_rfl
theorem SC {r:Option ((ZJ×Mem)×List (Nat×Nat))} (h:OkW r F' M'):∃ G es,r=some ((G,M'),es)∧(∀ p∈es,p.1=p.2)∧∀ t v,look t F'=some v→look t G=some v:=by
 obtain⟨h1,h2⟩:=h
 cases r with
 | none=>cases h1
 | some x =>
  obtain⟨⟨G,m⟩,es⟩:=x
  simp only[EW] at h1
  split at h1
  ·rename_i f hf
   simp only[aD,aU] at h1
   obtain⟨rfl,rfl⟩:=h1
   exact⟨G,es,rfl,UT _ h2,JQ _ _ _ hf⟩
  ·cases h1
theorem K4 (j:Nat) (F':Nat→ZJ) (M':Nat→Mem) {i:Nat} (hr:∀ b,OkW (Tt P n ops.toList F M j b i) (F' b) (M' b))
  (h:∀ b,TL P n w0 ops Q (i+1) (F' b) (M' b)):TL P n w0 ops Q i F M:=by
 intro a w hF hM
 obtain⟨G,es,hG,he,kr⟩:=SC (hr w.heap.size)
 unfold Tt at hG
 split at hG
 ·rename_i s d hs
  obtain⟨o,h1,h2,h3,h4⟩:=QU hF hs
  rw[h1]
  refine XU h2 ?_
  unfold Oper.wp
  rw[h3]
  split at hG
  ·rename_i v m es' hm
   split at hG
   ·rename_i G' hp
    simp only[aD,aU] at hG
    obtain⟨⟨rfl,rfl⟩,rfl⟩:=hG
    obtain⟨w',wk,hM'⟩:=VW s M w _ _ _ hM rfl hm he
    rw[wk]
    subst h4
    exact h w.heap.size _ w' ((KH hF hp).sub kr) hM'
   ·cases hG
  ·rename_i m es' hm
   split at hG
   ·rename_i G' hp
    simp only[aD,aU] at hG
    obtain⟨⟨rfl,rfl⟩,rfl⟩:=hG
    obtain⟨w',wk,hM'⟩:=VW s M w _ _ _ hM rfl hm he
    rw[wk]
    subst h4
    exact h w.heap.size _ w' ((KH hF hp).sub kr) hM'
   ·cases hG
  ·cases hG
 ·cases hG
def Ret (w:World) (v:Value):Ending→World→Prop:=fun e w'=>e=.returned v∧Below w.heap.size w w'
def JD {Γ:Type} (w0:Ctx) (v:Γ→Value) (M:Γ→Mem):Ending→World→Prop:=fun e w'=>∃ g,e=.returned (v g)∧Sat w0 (M g) w'
def XS (M:Mem):Nat→Prop:=fun b=>∃ e∈M,VF e b
theorem Sat.call {w0:Ctx} {w w':World} {Mp Mr Mn:Mem} (h:Sat w0 (Mp++Mr) w) (h':Sat ⟨w,XS Mp⟩ Mn w'):Sat w0 (Mn++Mr) w':=by
 have hp:∀ e∈Mp,VV e w∧∀ b,VF e b→w0.D b∨w0.w0.heap.size≤b:=fun e he=>h.own e (cL _ he)
 have hr:∀ e∈Mr,VV e w∧∀ b,VF e b→w0.D b∨w0.w0.heap.size≤b:=fun e he=>h.own e (eI _ he)
 have hap:=cY.1 h.apart
 have far:∀ f∈Mr,∀ b,VF f b→¬ XS Mp b:=fun f hf b hb ⟨e,he,hb2⟩=>hap.2.2 e he f hf b hb2 hb
 refine⟨⟨h'.chg.os.trans h.chg.os,h'.chg.tape.trans h.chg.tape,h'.chg.output.trans h.chg.output,bH h.chg.size h'.chg.size,fun k hk hd=>?_,bH h.chg.drawn h'.chg.drawn⟩,fun e he=>?_,?_⟩
 ·refine(h'.chg.block k (bV hk h.chg.size) ?_).trans (h.chg.block k hk hd)
  rintro⟨e,he,hf⟩
  rcases(hp e he).2 k hf with h1|h1
  ·exact hd h1
  ·omega
 ·rcases bD.1 he with he|he
  ·refine⟨(h'.own e he).1,fun b hb=>?_⟩
   rcases(h'.own e he).2 b hb with ⟨f,hf,hb2⟩|h1
   ·exact(hp f hf).2 b hb2
   ·exact .inr (bH h.chg.size h1)
  ·exact⟨SB (hr e he).1 fun b hb=>h'.chg.block b (ltE (hr e he).1 b hb) (far e he b hb),(hr e he).2⟩
 ·refine cY.2 ⟨h'.apart,hap.2.1,fun e he f hf b hb1 hb2=>?_⟩
  rcases(h'.own e he).2 b hb1 with h1|h1
  ·exact far f hf b hb2 h1
  ·have h2:w.heap.size≤b:=h1
   have:=ltE (hr f hf).1 b hb2
   omega
def VD (P:Program) (ops:List Oper) (F:ZJ) (i:Nat):Option (FuncId×Array Value×Option Tmp) :=
 match semAt ops F i with
 | some (s,d)=>match mr P [] 0 s with
  | some (.enter f args,[])=>some (f,args,d)
  | _=>none
 | none=>none
theorem JI {i:Nat} {f:FuncId} {args:Array Value} {d:Option Tmp} {a:Act} (hF:Fr n F a) (h:VD P ops.toList F i=some (f,args,d)) :
  ∃ o,ops.toList.drop i=o::ops.toList.drop (i+1)∧Region.wanted o (yielded ops a.tmps)=true∧(∀ w,(execOp a.eval o).run P w=.ok (.enter f args) w)∧o.dst=d:=by
 unfold VD at h
 split at h
 ·rename_i s d' hs
  split at h
  ·rename_i f' args' hm
   simp only[aD,aU] at h
   obtain⟨rfl,rfl,rfl⟩:=h
   obtain⟨o,h1,h2,h3,h4⟩:=QU hF hs
   exact⟨o,h1,h2,fun w=>by rw[h3];exact QZ (Sat.start w) s _ _ hm (by simp),h4⟩
  ·cases h
 ·cases h
def Gz (F':ZJ) (G:Option ZJ):Option ZJ :=
 match G with|some g=>pick (F'.map Prod.fst) g|none=>none
theorem Kv {d:Option Tmp} {v:Value} {a:Act} (hF:Fr n F a) (h:Gz F' (Gv n F d v)=some F'):Fr n F' (a.put d v):=by
 unfold Gz at h
 split at h
 ·rename_i g hg
  exact(KH hF hg).sub (JQ _ _ _ h)
 ·cases h
theorem TL.call (d:Option Tmp) (F':ZJ) {i:Nat} {f:FuncId} {args:Array Value} {v:Value} (hc:∀ w,Sat w0 M w→Calls P f args w (Ret w v))
  (hs:VD P ops.toList F i=some (f,args,d)) (hp:Gz F' (Gv n F d v)=some F') (h:TL P n w0 ops Q (i+1) F' M):TL P n w0 ops Q i F M:=by
 intro a w hF hM
 obtain⟨o,h1,h2,h3,h4⟩:=JI hF hs
 rw[h1]
 refine XU h2 ?_
 unfold Oper.wp
 rw[h3 w]
 refine(hc w hM).mono fun e w' he=>?_
 obtain⟨rfl,hb⟩:=he
 subst h4
 exact h _ w' (Kv hF hp) (hM.later hb)
theorem Xx {Γ:Type} (v:Γ→Value) (Mn:Γ→Mem) (Mp Mr:Mem) (d:Option Tmp) (F':Γ→ZJ) {i:Nat} {f:FuncId} {args:Array Value}
  (hc:∀ w,Sat w0 (Mp++Mr) w→Calls P f args w (JD ⟨w,XS Mp⟩ v Mn))
  (hs:VD P ops.toList F i=some (f,args,d)) (hp:∀ g,Gz (F' g) (Gv n F d (v g))=some (F' g)) (h:∀ g,TL P n w0 ops Q (i+1) (F' g) (Mn g++Mr)):TL P n w0 ops Q i F (Mp++Mr):=by
 intro a w hF hM
 obtain⟨o,h1,h2,h3,h4⟩:=JI hF hs
 rw[h1]
 refine XU h2 ?_
 unfold Oper.wp
 rw[h3 w]
 refine(hc w hM).mono fun e w' he=>?_
 obtain⟨g,rfl,hb⟩:=he
 subst h4
 exact h g _ w' (Kv hF (hp g)) (hM.call hb)
theorem Zab {Γ:Type} (v:Γ→Value) (Mn:Γ→Mem) (M2:Γ→Mem) (he:∀ g,Mn g++M=M2 g) (d:Option Tmp) (F':Γ→ZJ) {i:Nat} {f:FuncId} {args:Array Value}
  (hc:∀ w,Sat w0 M w→Calls P f args w (JD (cx w) v Mn))
  (hs:VD P ops.toList F i=some (f,args,d)) (hp:∀ g,Gz (F' g) (Gv n F d (v g))=some (F' g)) (h:∀ g,TL P n w0 ops Q (i+1) (F' g) (M2 g)):TL P n w0 ops Q i F M:=by
 refine Xx (Mp:=[]) (Mr:=M) v Mn d F' (fun w hM=>?_) hs hp (fun g=>by rw[he g];exact h g)
 refine(hc w hM).mono fun e w' he=>?_
 obtain⟨g,h1,h2⟩:=he
 refine⟨g,h1,⟨h2.chg.os,h2.chg.tape,h2.chg.output,h2.chg.size,fun k hk _=>h2.chg.block k hk (fun h=>h),h2.chg.drawn⟩,fun e he=>⟨(h2.own e he).1,fun b hb=>?_⟩,h2.apart⟩
 rcases(h2.own e he).2 b hb with h3|h3
 ·exact h3.elim
 ·exact .inr h3
theorem GK {Γ:Type} (s:Sem Next) (d:Option Tmp) (v:Γ→Value) (M':Γ→Mem) (F':Γ→ZJ) {i:Nat} (hv:∀ w,Sat w0 M w→∃ g w',s.run P w=.ok (.value (v g)) w'∧Sat w0 (M' g) w')
  (hs:semAt ops.toList F i=some (s,d)) (hp:∀ g,Gz (F' g) (Gv n F d (v g))=some (F' g)) (h:∀ g,TL P n w0 ops Q (i+1) (F' g) (M' g)):TL P n w0 ops Q i F M:=by
 intro a w hF hM
 obtain⟨o,h1,h2,h3,h4⟩:=QU hF hs
 rw[h1]
 refine XU h2 ?_
 unfold Oper.wp
 obtain⟨g,w',hr,hM'⟩:=hv w hM
 rw[h3,hr]
 subst h4
 exact h g _ w' (Kv hF (hp g)) hM'
theorem YS (M':Mem) (hs:∀ w,Sat w0 M w→Sat w0 M' w) {i:Nat} (h:TL P n w0 ops Q i F M'):TL P n w0 ops Q i F M :=
 fun a w hF hM=>h a w hF (hs w hM)
theorem ZW (s:Sem Next) (d:Option Tmp) (v:Value) (F':ZJ) {i:Nat} (hv:∀ w,Sat w0 M w→s.run P w=.ok (.value v) w) (hs:semAt ops.toList F i=some (s,d))
  (hp:Gz F' (Gv n F d v)=some F') (h:TL P n w0 ops Q (i+1) F' M):TL P n w0 ops Q i F M:=by
 intro a w hF hM
 obtain⟨o,h1,h2,h3,h4⟩:=QU hF hs
 rw[h1]
 refine XU h2 ?_
 unfold Oper.wp
 rw[h3,hv w hM]
 subst h4
 exact h _ w (Kv hF hp) hM
theorem YK (M':Mem) (hs:M'.Sublist M) {i:Nat} (h:TL P n w0 ops Q i F M'):TL P n w0 ops Q i F M :=
 fun a w hF hM=>h a w hF (hM.sub hs)
theorem Z2 {i:Nat} (hi:Nat.ble ops.toList.length i=true) (h:TE n w0 Q .normal F M):TL P n w0 ops Q i F M:=by
 intro a w hF hM
 rw[cM (aL hi)]
 exact h a w hF hM
theorem Z4 {y:Code} (h:TC P n w0 Q y F M):TE n w0 (Exit.then (y.wp P Q) Q) .normal F M:=h
theorem Zb {y:Code} {i:Nat} (hi:Nat.ble ops.toList.length i=true) (h:TC P n w0 Q y F M):TL P n w0 ops (Exit.then (y.wp P Q) Q) i F M:=Z2 hi h
theorem TC.seq {x y:Code} (h:TC P n w0 (Exit.then (y.wp P Q) Q) x F M):TC P n w0 Q (.seq x y) F M:=fun a w hF hM=>wp_seq (h a w hF hM)
theorem TC.region {id:Nat} (h:TL P n w0 ops Q 0 F M):TC P n w0 Q (.region id ops false) F M:=fun a w hF hM=>wp_region_list (by simpa using h a w hF hM)
theorem TC.skip (h:TE n w0 Q .normal F M):TC P n w0 Q .skip F M:=fun a w hF hM=>wp_skip (h a w hF hM)
theorem TC.ret (h:TE n w0 Q .ret F M):TC P n w0 Q .ret F M:=fun a w hF hM=>wp_ret (h a w hF hM)
theorem TC.exit {id:Nat} (h:TE n w0 Q (.exit id) F M):TC P n w0 Q (.exit id) F M:=fun a w hF hM=>wp_exit (h a w hF hM)
theorem TC.block {id:Nat} {c:Code} (h:TC P n w0 (Exit.inBlock id Q) c F M):TC P n w0 Q (.block id c) F M:=fun a w hF hM=>wp_block (h a w hF hM)
theorem TC.cond {c:Operand} {x y:Code} (b:Bool) (hk:known F c=true) (hc:rho F c=.bool b) (h1:b=true→TC P n w0 Q x F M) (h2:b=false→TC P n w0 Q y F M) :
  TC P n w0 Q (.cond c x y) F M:=fun a w hF hM =>
 wp_cond_split ((hF.eval c hk).trans hc) (fun e=>h1 e a w hF hM) (fun e=>h2 e a w hF hM)
theorem Xo {c:Operand} {x y:Code} (hk:known F c=true) (hc:rho F c=.bool true) (h:TC P n w0 Q x F M):TC P n w0 Q (.cond c x y) F M :=
 fun a w hF hM=>wp_cond_true ((hF.eval c hk).trans hc) (h a w hF hM)
theorem Jr {c:Operand} {x y:Code} (hk:known F c=true) (hc:rho F c=.bool false) (h:TC P n w0 Q y F M):TC P n w0 Q (.cond c x y) F M :=
 fun a w hF hM=>wp_cond_false ((hF.eval c hk).trans hc) (h a w hF hM)
theorem Y2 {p:Prop} (hs:∀ w,Sat w0 M w→p) {i:Nat} (h:p→TL P n w0 ops Q i F M):TL P n w0 ops Q i F M:=fun a w hF hM=>h (hs w hM) a w hF hM
theorem Gn {p:Prop} (hs:∀ w,Sat w0 M w→p) {c:Code} (h:p→TC P n w0 Q c F M):TC P n w0 Q c F M:=fun a w hF hM=>h (hs w hM) a w hF hM
theorem Zad {p:Prop} (hs:∀ w,Sat w0 M w→p) {e:Exit} (h:p→TE n w0 Q e F M):TE n w0 Q e F M:=fun a w hF hM=>h (hs w hM) a w hF hM
theorem QS (M':Mem) (hs:∀ w,Sat w0 M w→Sat w0 M' w) {c:Code} (h:TC P n w0 Q c F M'):TC P n w0 Q c F M:=fun a w hF hM=>h a w hF (hs w hM)
theorem Yp (M':Mem) (hs:∀ w,Sat w0 M w→Sat w0 M' w) {e:Exit} (h:TE n w0 Q e F M'):TE n w0 Q e F M:=fun a w hF hM=>h a w hF (hs w hM)
theorem SA (M':Mem) (hs:M'.Sublist M) {c:Code} (h:TC P n w0 Q c F M'):TC P n w0 Q c F M:=fun a w hF hM=>h a w hF (hM.sub hs)
theorem J2 (F':ZJ) {c:Code} (hp:pick (F'.map Prod.fst) F=some F') (h:TC P n w0 Q c F' M):TC P n w0 Q c F M:=fun a w hF hM=>h a w (hF.sub (JQ _ _ _ hp)) hM
theorem Jj {K:Act→World→Prop} (h:TE n w0 Q .ret F M):TE n w0 (Exit.then K Q) .ret F M:=h
theorem Ht {id:Nat} (h:TE n w0 Q .ret F M):TE n w0 (Exit.inBlock id Q) .ret F M:=h
theorem VS {id:Nat} {K:Act→World→Prop} (h:TE n w0 Q (.exit id) F M):TE n w0 (Exit.then K Q) (.exit id) F M:=h
theorem Z1 {id:Nat} (h:TE n w0 Q .normal F M):TE n w0 (Exit.inBlock id Q) (.exit id) F M:=fun a w hF hM=>by simp only[Exit.inBlock,if_true];exact h a w hF hM
theorem Ww {id id':Nat} (hne:Nat.beq id' id=false) (h:TE n w0 Q (.exit id') F M):TE n w0 (Exit.inBlock id Q) (.exit id') F M:=fun a w hF hM=>by
 have:¬ id'=id:=fun e=>by subst e;simp at hne
 simp only[Exit.inBlock,if_neg this];exact h a w hF hM
theorem Gu {id:Nat} (h:TE n w0 Q .normal F M):TE n w0 (Exit.inBlock id Q) .normal F M:=h
theorem TC.loop {X:Type} (Fs:X→ZJ) (Ms:X→Mem) (m:X→Nat) (I:X→Prop) {c:Code}
  (round:∀ x,I x→TC P n w0 (Exit.then (fun a w=>∃ y,I y∧m y<m x∧Fr n (Fs y) a∧Sat w0 (Ms y) w) Q) c (Fs x) (Ms x)) :
  ∀ x,I x→TC P n w0 Q (.loop c) (Fs x) (Ms x):=by
 intro x hx a w hF hM
 refine wp_loop_rounds (m x+1) ?_
 have key:∀ (k:Nat) (x:X),m x≤k→I x→∀ a w,Fr n (Fs x) a→Sat w0 (Ms x) w→Code.rounds P c Q (k+1) a w:=by
  intro k
  induction k with
  | zero =>
   intro x hk hx a w hF hM
   rw[rounds_succ]
   refine wp_mono (round x hx a w hF hM) fun e a' w' h=>?_
   cases e with
   | normal=>obtain⟨y,_,hlt,_⟩:=h;omega
   | _=>exact h
  | succ k ih =>
   intro x hk hx a w hF hM
   rw[rounds_succ]
   refine wp_mono (round x hx a w hF hM) fun e a' w' h=>?_
   cases e with
   | normal=>obtain⟨y,hy,hlt,hFy,hMy⟩:=h;exact ih y (by omega) hy a' w' hFy hMy
   | _=>exact h
 exact key (m x) x (aR _) hx a w hF hM
theorem Z7 {X:Type} {Fs:X→ZJ} {Ms:X→Mem} {m:X→Nat} {I:X→Prop} {x:X} (y:X) (hI:I y) (hm:m y<m x)
  (hp:pick ((Fs y).map Prod.fst) F=some (Fs y)) (hs:(Ms y).Sublist M) :
  TE n w0 (Exit.then (fun a w=>∃ y,I y∧m y<m x∧Fr n (Fs y) a∧Sat w0 (Ms y) w) Q) .normal F M :=
 fun _ _ hF hM=>⟨y,hI,hm,hF.sub (JQ _ _ _ hp),hM.sub hs⟩
def UG:Nat→List Value→ZJ
 | _,[]=>[]
 | k,v::vs=>(k,v)::UG (k+1) vs
theorem Wl:∀ (vs:List Value) (k t:Nat) (v:Value),look t (UG k vs)=some v→∃ i,t=k+i∧vs[i]?=some v
 | [],_,_,_,h=>by cases h
 | u::vs,k,t,v,h=>by
  by_cases e:k=t
  ·subst e
   simp only[UG,YI,aD] at h
   exact⟨0,rfl,by simp[h]⟩
  ·simp only[UG,YV _ _ e] at h
   obtain⟨i,hi,hv⟩:=Wl vs (k+1) t v h
   exact⟨i+1,by omega,by simpa using hv⟩
theorem YW {f:FuncId} {fn:Func} {c:Code} {vs:List Value} {R:Ending→World→Prop} (hM:Sat w0 M w0.w0) (hf:P.funcs[f]?=some fn) (hb:fn.body=some c) (hn:fn.ntmps=n)
  (hl:Nat.ble vs.length n=true) (h:TC P n w0 (bodyPost P fn R) c (UG 0 vs) M):Calls P f vs.toArray w0.w0 R:=by
 refine calls_of_wp hf hb (h _ _ ⟨?_,rfl,fun t v ht=>?_⟩ hM)
 ·have:=aL hl
  simp[hn];omega
 ·obtain⟨i,hi,hv⟩:=Wl vs 0 t v ht
  have hlt:i<vs.length:=(aK.1 hv).1
  have:t=i:=by omega
  subst this
  simp only
  rw[dT (by simpa using hlt)]
  simpa using hv
theorem Zo {w:World} {f:FuncId} {fn:Func} {c:Code} {vs:List Value} {R:Ending→World→Prop} (hf:P.funcs[f]?=some fn) (hb:fn.body=some c) (hn:fn.ntmps=n)
  (hl:Nat.ble vs.length n=true) (h:TC P n (cx w) (bodyPost P fn R) c (UG 0 vs) []):Calls P f vs.toArray w R:=YW (w0:=cx w) (Sat.start w) hf hb hn hl h
end
end Go.Eng
end
section
namespace Go.Eng
def BC (P:Program) (M:Mem) (F:ZJ):List ResultVar→List Nat→Option (List Value×List (Nat×Nat))
 | [],_=>some ([],[])
 | .tmp t::r,hs=>match look t F with
  | some v=>match BC P M F r hs with
   | some (vs,es)=>some (v::vs,es)
   | none=>none
  | none=>none
 | .cell c T::r,hs=>match look c F with
  | some (.pointer (some a))=>match mr P M (hs.headD 0) (loadVar T a) with
   | some (v,es)=>match BC P M F r hs.tail with
    | some (vs,es')=>some (v::vs,es++es')
    | none=>none
   | none=>none
  | _=>none
def C3:List Value→Value
 | [v]=>v
 | vs=>.tuple vs.toArray
theorem MC {P:Program} {w0:Ctx} {w:World} {n:Nat} {F:ZJ} {M:Mem} {a:Act} {fn:Func} (hF:Fr n F a) (hM:Sat w0 M w) {hs:List Nat} {vs:List Value} {es:List (Nat×Nat)}
  (h:BC P M F fn.results.toList hs=some (vs,es)) (he:∀ p∈es,p.1=p.2):(results fn a.tmps).run P w=.ok (C3 vs) w:=by
 unfold results
 rw[Array.mapM_eq_mapM_toList]
 generalize fn.results.toList=rs at h
 have key:∀ (g:ResultVar→Sem Value),(∀ t,g (.tmp t)=pure (a.tmps.getD t undef))→(∀ b t,g (.cell b t)=(do loadVar t (← asAddr (a.tmps.getD b undef))))→∀ (rs:List ResultVar) (hs:List Nat) (vs:List Value) (es:List (Nat×Nat)),BC P M F rs hs=some (vs,es)→(∀ p∈es,p.1=p.2) →
   (List.mapM g rs).run P w=Result.ok vs w:=by
  intro g g1 g2 rs
  induction rs with
  | nil=>intro hs vs es h he;simp only[BC,aD,aU] at h;obtain⟨rfl,rfl⟩:=h;simp
  | cons x rs ih =>
   intro hs vs es h he
   cases x with
   | tmp t =>
    simp only[BC] at h
    split at h
    ·rename_i v hv
     split at h
     ·rename_i vs' es' hr
      simp only[aD,aU] at h
      obtain⟨rfl,rfl⟩:=h
      have h1:=ih hs vs' es' hr he
      have h2:a.tmps.getD t undef=v:=by rw[eJ,hF.has t v hv];rfl
      simp only[List.mapM_cons,Sem.run_bind,Sem.run_pure,g1,h1,h2,Result.andThen_ok]
     ·cases h
    ·cases h
   | cell b T =>
    simp only[BC] at h
    split at h
    ·rename_i ad hv
     split at h
     ·rename_i v es1 hm
      split at h
      ·rename_i vs' es' hr
       simp only[aD,aU] at h
       obtain⟨rfl,rfl⟩:=h
       have h1:=ih hs.tail vs' es' hr (fun p hp=>he p (by simp[hp]))
       have h2:asAddr (a.tmps.getD b undef)=pure ad:=by rw[eJ,hF.has b _ hv];rfl
       have h3:=QZ hM _ _ _ hm (fun p hp=>he p (by simp[hp]))
       simp only[List.mapM_cons,Sem.run_bind,Sem.run_pure,g2,h1,h2,Result.andThen_ok,h3]
      ·cases h
     ·cases h
    ·cases h
 simp only[Sem.run_bind,Sem.run_map,Sem.run_pure]
 rw[key _ (fun _=>rfl) (fun _ _=>rfl) rs hs vs es h he]
 cases vs with
 | nil=>simp[C3]
 | cons v vs=>cases vs <;> simp[C3]
def IZ:Option (List Value×List (Nat×Nat))→Option Value
 | some (vs,_)=>some (C3 vs)
 | none=>none
structure OkV (r:Option (List Value×List (Nat×Nat))) (v:Value):Prop where
 fst:IZ r=some v:=by kernel_rfl
 snd:BA r=Wy r:=by kernel_rfl
section
variable {P:Program} {n:Nat} {w0:Ctx} {ops:Array Oper} {Q:Exit→Act→World→Prop} {F F':ZJ} {M M':Mem}
theorem Tn {fn:Func} {R:Ending→World→Prop} (hs:List Nat) (v:Value) (h:OkV (BC P M F fn.results.toList hs) v) (hR:∀ w,Sat w0 M w→R (.returned v) w) :
  TE n w0 (bodyPost P fn R) .ret F M:=by
 intro a w hF hM
 obtain⟨h1,h2⟩:=h
 cases hr:BC P M F fn.results.toList hs with
 | none=>rw[hr] at h1;cases h1
 | some x =>
  rw[hr] at h1 h2
  simp only[IZ,aD] at h1
  subst h1
  exact⟨hF.defers,_,MC hF hM hr (UT _ h2),hR w hM⟩
theorem ZN {Γ:Type} {fn:Func} {v0:Γ→Value} {M0:Γ→Mem} {x:Exit} (hx:x=.ret∨x=.normal) (g:Γ) (hs:List Nat) (v:Value) (h:OkV (BC P M F fn.results.toList hs) v) (hv:v=v0 g)
  (hM:∀ w,Sat w0 M w→Sat w0 (M0 g) w):TE n w0 (bodyPost P fn (JD w0 v0 M0)) x F M:=by
 have:=Tn (n:=n) (w0:=w0) (R:=JD w0 v0 M0) hs v h fun w hw=>⟨g,congrArg _ hv,hM w hw⟩
 rcases hx with rfl|rfl
 ·exact this
 ·exact this
theorem TE.ret {w:World} {fn:Func} {v0:Value} (hs:List Nat) (v:Value) (h:OkV (BC P M F fn.results.toList hs) v) (hv:v=v0):TE n (cx w) (bodyPost P fn (Ret w v0)) .ret F M :=
 Tn hs v h fun _ hM=>⟨congrArg _ hv,hM.below⟩
theorem VG {Q:Act→Prop}:∀ (l:List Oper) (hs:List Nat) (F G:ZJ) (es:List (Nat×Nat)) (rest:List Oper) (a:Act),Fr n F a →
  Vm P n ops.toList M l hs F=some (G,es)→(∀ p∈es,p.1=p.2)→(∀ a',Fr n G a'→wpQuiet P ops (Sat w0 M) Q rest a')→wpQuiet P ops (Sat w0 M) Q (l++rest) a
 | [],hs,F,G,es,rest,a,hF,h,he,hk=>by
  simp only[Vm,aD,aU] at h
  obtain⟨rfl,rfl⟩:=h
  exact hk a hF
 | o::l,hs,F,G,es,rest,a,hF,h,he,hk=>by
  simp only[Vm] at h
  split at h
  ·rename_i hg
   have hw:=QF hF hg
   split at h
   ·rename_i v es1 hv
    split at h
    ·rename_i F1 hF1
     split at h
     ·rename_i G' es2 hr
      simp only[aD,aU] at h
      obtain⟨rfl,rfl⟩:=h
      have ih:=VG l _ F1 G' es2 rest (a.put o.dst v) (KH hF hF1) hr (fun p hp=>he p (by simp[hp])) hk
      show wpQuiet P ops (Sat w0 M) Q (o::(l++rest)) a
      unfold wpQuiet
      rw[if_pos hw]
      refine⟨v,fun w hM=>?_,ih⟩
      unfold Oper.quietAt
      rcases Gy hF hM hv (fun p hp=>he p (by simp[hp])) with e|⟨e,rfl⟩
      ·rw[e];exact⟨rfl,rfl⟩
      ·rw[e];exact⟨rfl,rfl⟩
     ·cases h
    ·cases h
   ·cases h
  ·rename_i hg
   have hw:=QF hF hg
   split at h
   ·rename_i F1 hF1
    have ih:=VG l _ F1 G es rest (a.put o.dst undef) (KH hF hF1) h he hk
    show wpQuiet P ops (Sat w0 M) Q (o::(l++rest)) a
    unfold wpQuiet
    rw[hw]
    simpa using ih
   ·cases h
  ·cases h
section
variable {Q:Act→Prop} {N:Nat}
theorem TQ.run (k:Nat) (hs:List Nat) (F':ZJ) {i:Nat} (hik:Nat.ble i k=true) (hr:OkR (Vm P n ops.toList M (((ops.toList.take N).drop i).take (k-i)) hs F) F')
  (h:TQ P n w0 ops Q N k F' M):TQ P n w0 ops Q N i F M:=by
 intro a hF
 obtain⟨G,es,hG,he,kr⟩:=BB hr
 rw[UF (ops.toList.take N) (aL hik)]
 exact VG _ _ _ _ _ _ a hF hG he (fun a' ha'=>h a' (ha'.sub kr))
theorem DL (t:Nat) (b:Bool) {i:Nat} (ht:look t F=some (.bool b)) (h1:b=true→TQ P n w0 ops Q N i ((t,.bool true)::F) M)
  (h2:b=false→TQ P n w0 ops Q N i ((t,.bool false)::F) M):TQ P n w0 ops Q N i F M:=by
 have key:∀ (c:Bool),b=c→∀ a,Fr n F a→Fr n ((t,.bool c)::F) a:=by
  rintro c rfl a hF
  refine hF.sub fun s v hv=>?_
  by_cases e:t=s
  ·subst e;rw[YI] at hv;rw[ht];exact hv
  ·rw[YV _ _ e] at hv;exact hv
 intro a hF
 cases hb:b with
 | true=>exact h1 hb a (key true hb a hF)
 | false=>exact h2 hb a (key false hb a hF)
theorem Zae (t:Nat) (b:Bool) (k:Nat) (hs1 hs2:List Nat) (G:Bool→ZJ) {i:Nat} (ht:look t F=some (.bool b)) (hik:Nat.ble i k=true)
  (h1:OkR (Vm P n ops.toList M (((ops.toList.take N).drop i).take (k-i)) hs1 ((t,.bool true)::F)) (G true))
  (h2:OkR (Vm P n ops.toList M (((ops.toList.take N).drop i).take (k-i)) hs2 ((t,.bool false)::F)) (G false))
  (h:TQ P n w0 ops Q N k (G b) M):TQ P n w0 ops Q N i F M:=by
 refine DL t b ht (fun e=>?_) (fun e=>?_)
 ·subst e;exact TQ.run k hs1 (G true) hik h1 h
 ·subst e;exact TQ.run k hs2 (G false) hik h2 h
theorem take_at {i:Nat} {o:Oper} {r:List Oper} (hi:Nat.blt i N=true) (h:ops.toList.drop i=o::r):∃ r',(ops.toList.take N).drop i=o::r'∧r'=(ops.toList.take N).drop (i+1):=by
 have hi':i<N:=aL hi
 refine⟨_,?_,rfl⟩
 rw[gM,gM,h,show N-i=(N-(i+1))+1 by omega,fS]
 congr 2
 have:ops.toList.drop (i+1)=(ops.toList.drop i).drop 1:=by rw[eL]
 rw[this,h];rfl
theorem TQ.call (d:Option Tmp) (F':ZJ) {i:Nat} {f:FuncId} {args:Array Value} {v:Value} (hc:∀ w,Sat w0 M w→Calls P f args w (Ret w v)) (hi:Nat.blt i N=true)
  (hs:VD P ops.toList F i=some (f,args,d)) (hp:Gz F' (Gv n F d v)=some F') (h:TQ P n w0 ops Q N (i+1) F' M):TQ P n w0 ops Q N i F M:=by
 intro a hF
 obtain⟨o,h1,h2,h3,h4⟩:=JI hF hs
 obtain⟨r,h5,rfl⟩:=take_at hi h1
 rw[h5]
 unfold wpQuiet
 rw[if_pos h2]
 refine⟨v,fun w hM=>?_,by subst h4;exact h _ (Kv hF hp)⟩
 unfold Oper.quietAt
 rw[h3 w]
 exact⟨rfl,(hc w hM).mono fun e w' he=>⟨he.1,hM.later he.2⟩⟩
theorem Zau (s:Sem Next) (d:Option Tmp) (v:Value) (F':ZJ) {i:Nat} (hv:∀ w,Sat w0 M w→s.run P w=.ok (.value v) w) (hi:Nat.blt i N=true) (hs:semAt ops.toList F i=some (s,d))
  (hp:Gz F' (Gv n F d v)=some F') (h:TQ P n w0 ops Q N (i+1) F' M):TQ P n w0 ops Q N i F M:=by
 intro a hF
 obtain⟨o,h1,h2,h3,h4⟩:=QU hF hs
 obtain⟨r,h5,rfl⟩:=take_at hi h1
 rw[h5]
 unfold wpQuiet
 rw[if_pos h2]
 refine⟨v,fun w hM=>?_,by subst h4;exact h _ (Kv hF hp)⟩
 unfold Oper.quietAt
 rw[h3,hv w hM]
 exact⟨rfl,rfl⟩
end
theorem ET {N i:Nat} (hi:Nat.ble N i=true) (h:TE n w0 Q .normal F M):TQ P n w0 ops (fun a'=>∀ w',Sat w0 M w'→Q .normal a' w') N i F M:=by
 intro a hF
 rw[cM (by have:=aL hi;simp;omega)]
 exact fun w' hM=>h a w' hF hM
theorem VT {N i:Nat} {y:Code} (hi:Nat.ble N i=true) (h:TC P n w0 Q y F M):TQ P n w0 ops (fun a'=>∀ w',Sat w0 M w'→(Exit.then (y.wp P Q) Q) .normal a' w') N i F M :=
 ET (Q:=Exit.then (y.wp P Q) Q) hi h
theorem TQ.tail {N i:Nat} (hi:Nat.ble N i=true) (h:TL P n w0 ops Q N F M):TQ P n w0 ops (fun a'=>∀ w',Sat w0 M w'→wpList P ops Q (ops.toList.drop N) a' w') N i F M:=by
 intro a hF
 have e:(ops.toList.take N).drop i=[]:=cM (by have:=aL hi;simp;omega)
 rw[e]
 exact fun w' hM=>h a w' hF hM
theorem UA {id:Nat} (N:Nat) (hl:Nat.beq ops.toList.length N=true) (hm:P.follows .mixedOrders=true) (hB:Region.lexB .any ops=true)
  (h:TQ P n w0 ops (fun a'=>∀ w',Sat w0 M w'→Q .normal a' w') N 0 F M):TC P n w0 Q (.region id ops true) F M:=by
 intro a w hF hM
 have hl':=bE hl
 subst hl'
 refine wp_region_quiet (C:=Sat w0 M) hm hB (hM.drawn _) ?_
 have:=h a hF
 rw[eM,gF] at this
 exact this
def MD (P:Program) (md:Region.Mode) (ops:Array Oper) (C:World→Prop) (N:Nat) (L:Array Bool→Act→Prop):Nat→Array Bool→Act→Prop
 | 0,listed,a=>L listed a
 | f+1,listed,a=>Region.ready md ops listed ≠ []∧∀ i∈Region.ready md ops listed,i<N∧qOp P ops C i (MD P md ops C N L f (listed.setIfInBounds i true)) a
theorem WL {md:Region.Mode} {C:World→Prop} {N g:Nat} {L:Array Bool→Act→Prop} (hL:∀ listed a w,C w→L listed a→wpAny P md ops Q g listed a w) :
  ∀ (f:Nat) (listed:Array Bool) (a:Act) (w:World),C w→MD P md ops C N L f listed a→wpAny P md ops Q (f+g) listed a w
 | 0,listed,a,w,hC,h=>by rw[bB];exact hL _ _ _ hC h
 | f+1,listed,a,w,hC,h=>by
  rw[show f+1+g=(f+g)+1 by omega]
  exact⟨fun h0=>absurd h0 h.1,fun i hi=>wpOp_of_qOp hC (fun a' w' hC' h'=>WL hL f _ a' w' hC' h') (h.2 i hi).2⟩
theorem ME {md:Region.Mode} {C:World→Prop} {N i:Nat} {oi:Oper} {v:Value} {L:Array Bool→Act→Prop} (hi:ops[i]?=some oi)
  (y6:∀ (j:Nat) (o:Oper) cs b,ops[j]?=some o→o.op≠.select cs b) (hs:Region.sinkB md ops N=true) (hc:Region.chainB md ops N=true) (hn:N<ops.size) (hin:i<N)
  (gz:∀ listed a,L listed a→∀ j∈Region.ready md ops listed,N≤j) :
  ∀ (f:Nat) (listed:Array Bool) (a:Act),HeadInv md ops N listed →
   (∀ j oj,ops[j]?=some oj→j≠i→listed.getD j true=false→(∀ e∈oj.after,Region.binds md e=true→e.on≠i)→oi.apart ops oj=true) →
   i∈Region.ready md ops listed→YieldsIn P ops C oi v a →
   MD P md ops C N L f (listed.setIfInBounds i true) (a.put oi.dst v)→MD P md ops C N L (f+1) listed a:=by
 intro f
 induction f with
 | zero =>
  intro listed a inv _ hr hy H
  have hun:=(mem_ready.1 hr).1
  refine⟨fun h=>(by rw[h] at hr;cases hr),fun j hj=>?_⟩
  have hjn:j<N:=Nat.lt_of_not_le fun h=>tail_waits hs hc hn inv _ i rfl hin hun j h hj
  refine⟨hjn,?_⟩
  by_cases hji:j=i
  ·subst hji;exact hy.qOp hi H
  ·have:=gz _ _ H j (ready_mono hj hji)
   omega
 | succ f ih =>
  intro listed a inv vq hr hy H
  have hun:=(mem_ready.1 hr).1
  refine⟨fun h=>(by rw[h] at hr;cases hr),fun j hj=>?_⟩
  have hjn:j<N:=Nat.lt_of_not_le fun h=>tail_waits hs hc hn inv _ i rfl hin hun j h hj
  refine⟨hjn,?_⟩
  by_cases hji:j=i
  ·subst hji;exact hy.qOp hi H
  ·obtain⟨fa,oj,hoj,ja⟩:=mem_ready.1 hj
   have s5:∀ e∈oj.after,Region.binds md e=true→e.on≠i:=fun e he hb heq=>by
    have h1:=ja e he hb
    rw[heq,getD_both hun] at h1
    cases h1
   have h2:=qOp_put hoj (vq j oj hoj hji fa s5) (fun cs b=>y6 i oi cs b hi) (fun cs b=>y6 j oj cs b hoj) hy (H.2 j (ready_mono hj hji)).2
   have pq:∀ k ok,ops[k]?=some ok→k≠i→(listed.setIfInBounds j true).getD k true=false →
     (∀ e∈ok.after,Region.binds md e=true→e.on≠i)→oi.apart ops ok=true:=fun k ok hk hki hu hno=>by
    refine vq k ok hk hki ?_ hno
    by_cases hjk:j=k
    ·subst hjk;exact fa
    ·rw[getD_set_ne true hjk] at hu;exact hu
   refine qOp_mono (fun a' h3=>ih (listed.setIfInBounds j true) a' (inv.set hj hjn) pq (ready_mono hr (Ne.symm hji)) h3.1 ?_) h2
   rw[Array.setIfInBounds_comm _ _ hji]
   exact h3.2
theorem Fg {md:Region.Mode} {C:World→Prop} {N g:Nat} {Lq:Act→Prop} (y6:Region.noSelect ops=true) (hs:Region.sinkB md ops N=true) (hc:Region.chainB md ops N=true)
  (hn:N<ops.size):∀ (l:List Oper) (k:Nat) (listed:Array Bool) (a:Act),(∀ j,j<l.length→l[j]?=ops[k+j]?)→k+l.length=N→HeadInv md ops N listed →
  Region.lexHead md ops g l.length k listed=true→wpQuiet P ops C Lq l a →
  MD P md ops C N (fun gd a'=>Region.seqB md ops g N gd=true∧Lq a') l.length listed a
 | [],k,listed,a,_,hk,_,hB,h=>by
  have:k=N:=by simpa using hk
  subst this
  exact⟨by simpa[Region.lexHead] using hB,h⟩
 | o::l,k,listed,a,hl,hk,inv,hB,h=>by
  have h0:ops[k]?=some o:=by simpa using (hl 0 (by simp)).symm
  simp only[aG,Region.lexHead,aW] at hB
  obtain⟨⟨hr,hf⟩,hB'⟩:=hB
  have hkn:k<N:=by simp only[aG] at hk;omega
  have hr':k∈Region.ready md ops listed:=by simpa using hr
  have hst:qOp P ops C k (wpQuiet P ops C Lq l) a:=by unfold qOp;simp only[h0];exact h
  obtain⟨v,hy,hK⟩:=yieldsIn_of_qOp h0 hst
  exact ME h0 (Region.noSelect_spec y6) hs hc hn hkn (fun gd a' hL=>seqB_ready hL.1) l.length listed a inv (Region.free_spec h0 hf) hr' hy
   (Fg y6 hs hc hn l (k+1) _ _ (fun j hj=>by have:=hl (j+1) (by simp;omega);simpa[Nat.add_assoc,Nat.add_comm 1 j] using this)
    (by simp only[aG] at hk;omega) (inv.set hr' hkn) hB' hK)
theorem KW {id:Nat} (N:Nat) (hm:P.follows .mixedOrders=true) (hB:Region.lexTailB .any ops N=true)
  (h:TQ P n w0 ops (fun a'=>∀ w',Sat w0 M w'→wpList P ops Q (ops.toList.drop N) a' w') N 0 F M):TC P n w0 Q (.region id ops true) F M:=by
 intro a w hF hM
 simp only[Region.lexTailB,aW,decide_eq_true_eq] at hB
 obtain⟨⟨⟨⟨y6,hn⟩,hs⟩,hc⟩,bm⟩:=hB
 have hn':N<ops.toList.length:=by simpa using hn
 have htl:(ops.toList.take N).length=N:=by rw[bG];omega
 have hdl:(ops.toList.drop N).length=ops.size-N:=by simp
 have bn:HeadInv .any ops N (Array.replicate ops.size false) :=
  ⟨by simp,fun j oj _ hl=>(by rw[getD_replicate_false] at hl;cases hl),fun t _ ht=>getD_in (by simpa using ht) (getD_replicate_false _ _)⟩
 have H:=Fg (md:=.any) (g:=ops.size-N) (C:=Sat w0 M) y6 hs hc hn (ops.toList.take N) 0 _ a (fun j hj=>by
  rw[htl] at hj
  rw[eC hj,bB,aZ]) (by simpa using htl) bn (by rw[htl];exact bm) (by simpa using h a hF)
 refine wp_region_any hm ?_
 have:=WL (Q:=Q) (g:=ops.size-N) (fun listed a' w' hC hL=>by
  have:=wpAny_of_seq (md:=.any) (Q':=Q) (ops.toList.drop N) N listed a' w' (fun j=>by rw[cV,aZ]) (by rw[hdl];exact hL.1) (hL.2 w' hC)
  rwa [hdl] at this) _ _ _ _ (hM.drawn (w.drawn+1)) H
 rw[htl,show N+(ops.size-N)=ops.size by omega] at this
 exact this
end
end Go.Eng
end
section
namespace Go.Eng
section
variable {P:Program} {ops:Array Oper} {md:Region.Mode} {C:Array Bool→World→Prop}
def gives (P:Program) (o:Oper) (a:Act) (v:Value) (D:World→Prop) (w:World):Prop :=
 match (execOp a.eval o).run P w with
 | .ok (.value u) w'=>u=v∧D w'
 | .ok .skip w'=>v=undef∧D w'
 | .ok (.enter f args) w'=>Calls P f args w' (fun e w''=>e=.returned v∧D w'')
 | _=>False
def YG (P:Program) (ops:Array Oper) (C:Array Bool→World→Prop) (i:Nat) (o:Oper) (v:Value) (a:Act):Prop :=
 (Region.wanted o (yielded ops a.tmps)=true∧∀ (done:Array Bool) w,done.getD i true=false→C done w→gives P o a v (C (done.setIfInBounds i true)) w) ∨
 (Region.wanted o (yielded ops a.tmps)=false∧v=undef∧∀ (done:Array Bool) w,done.getD i true=false→C done w→C (done.setIfInBounds i true) w)
theorem YG.of_same {i:Nat} {o:Oper} {v:Value} {a a':Act} (hy:YG P ops C i o v a) (he:execOp a'.eval o=execOp a.eval o)
  (hw:Region.wanted o (yielded ops a'.tmps)=Region.wanted o (yielded ops a.tmps)):YG P ops C i o v a':=by
 unfold YG gives at *
 rw[he,hw]
 exact hy
def gOp (P:Program) (ops:Array Oper) (C:Array Bool→World→Prop) (i:Nat) (K:Act→Prop) (a:Act):Prop :=
 ∃ o v,ops[i]?=some o∧YG P ops C i o v a∧K (a.put o.dst v)
def SD (P:Program) (md:Region.Mode) (ops:Array Oper) (C:Array Bool→World→Prop) (L:Array Bool→Act→Prop):Nat→Array Bool→Act→Prop
 | 0,done,a=>L done a
 | f+1,done,a=>Region.ready md ops done ≠ []∧∀ i∈Region.ready md ops done,gOp P ops C i (SD P md ops C L f (done.setIfInBounds i true)) a
theorem V8 {L:Array Bool→Act→Prop} {Q:Exit→Act→World→Prop} (hL:∀ done a w,C done w→L done a→Region.ready md ops done=[]∧Q .normal a w) :
  ∀ (f:Nat) (done:Array Bool) (a:Act) (w:World),C done w→SD P md ops C L f done a→wpAny P md ops Q f done a w
 | 0,done,a,w,hC,h=>hL _ _ _ hC h
 | f+1,done,a,w,hC,h=>by
  refine⟨fun h0=>absurd h0 h.1,fun i hi=>?_⟩
  obtain⟨o,v,ho,hy,hk⟩:=h.2 i hi
  have hun:=(mem_ready.1 hi).1
  unfold wpOp
  simp only[ho]
  rcases hy with ⟨hw,hg⟩|⟨hw,rfl,hg⟩
  ·rw[if_pos hw]
   refine .inl ?_
   have h3:=hg done w hun hC
   unfold gives at h3
   unfold Oper.wp
   generalize (execOp a.eval o).run P w=r at *
   cases r with
   | ok x w' =>
    cases x <;> simp only at h3 <;> simp only[Oper.upon]
    case value u=>obtain⟨rfl,hD⟩:=h3;exact V8 hL f _ _ _ hD hk
    case skip=>obtain⟨rfl,hD⟩:=h3;exact V8 hL f _ _ _ hD hk
    case enter g args=>exact h3.mono fun e w'' ⟨he,hD⟩=>by subst he;exact V8 hL f _ _ _ hD hk
   | halt x w'=>simp only at h3
  ·rw[hw]
   exact V8 hL f _ _ _ (hg done w hun hC) hk
theorem OS {i j:Nat} {oi oj:Oper} {v:Value} (hj:ops[j]?=some oj) (hap:oi.apart ops oj=true)
  (hsi:∀ cs b,oi.op≠.select cs b) (hsj:∀ cs b,oj.op≠.select cs b) {K:Act→Prop} {a:Act}
  (hy:YG P ops C i oi v a) (h:gOp P ops C j K (a.put oi.dst v)) :
  gOp P ops C j (fun a'=>YG P ops C i oi v a'∧K (a'.put oi.dst v)) a:=by
 obtain⟨h1,h2,h3⟩:=Oper.apart_spec hap
 obtain⟨o,u,ho,hu,hK⟩:=h
 have:o=oj:=cU (ho.symm.trans hj)
 subst this
 refine⟨o,u,ho,hu.of_same (execOp_put o hsj a oi.dst v h1).symm (wanted_put o a oi.dst v h1).symm,?_,by rw[← Act.put_comm a v u h2];exact hK⟩
 exact hy.of_same (execOp_put oi hsi a o.dst u h3) (wanted_put oi a o.dst u h3)
theorem SE {i:Nat} {a:Act} {K K':Act→Prop} (h:∀ a,K a→K' a) (hh:gOp P ops C i K a):gOp P ops C i K' a :=
 let ⟨o,v,h1,h2,h3⟩:=hh;⟨o,v,h1,h2,h _ h3⟩
theorem LV {L:Array Bool→Act→Prop} {i:Nat} {oi:Oper} {v:Value} (hi:ops[i]?=some oi) (y6:∀ (j:Nat) (o:Oper) cs b,ops[j]?=some o→o.op≠.select cs b)
  (gz:∀ done a,L done a→Region.ready md ops done=[]) :
  ∀ (f:Nat) (done:Array Bool) (a:Act),
   (∀ j oj,ops[j]?=some oj→j≠i→done.getD j true=false→(∀ e∈oj.after,Region.binds md e=true→e.on≠i)→oi.apart ops oj=true) →
   i∈Region.ready md ops done→YG P ops C i oi v a →
   SD P md ops C L f (done.setIfInBounds i true) (a.put oi.dst v)→SD P md ops C L (f+1) done a:=by
 intro f
 induction f with
 | zero =>
  intro done a _ hr hy H
  refine⟨fun h=>(by rw[h] at hr;cases hr),fun j hj=>?_⟩
  by_cases hji:j=i
  ·subst hji;exact⟨oi,v,hi,hy,H⟩
  ·have:=ready_mono hj hji
   rw[gz _ _ H] at this
   cases this
 | succ f ih =>
  intro done a vq hr hy H
  refine⟨fun h=>(by rw[h] at hr;cases hr),fun j hj=>?_⟩
  by_cases hji:j=i
  ·subst hji;exact⟨oi,v,hi,hy,H⟩
  ·have h1:=H.2 j (ready_mono hj hji)
   obtain⟨fa,oj,hoj,ja⟩:=mem_ready.1 hj
   have s5:∀ e∈oj.after,Region.binds md e=true→e.on≠i:=fun e he hb heq=>by
    have h1:=ja e he hb
    rw[heq,getD_both (mem_ready.1 hr).1] at h1
    cases h1
   have h2:=OS hoj (vq j oj hoj hji fa s5) (fun cs b=>y6 i oi cs b hi) (fun cs b=>y6 j oj cs b hoj) hy h1
   have pq:∀ k ok,ops[k]?=some ok→k≠i→(done.setIfInBounds j true).getD k true=false →
     (∀ e∈ok.after,Region.binds md e=true→e.on≠i)→oi.apart ops ok=true:=fun k ok hk hki hu hno=>by
    refine vq k ok hk hki ?_ hno
    by_cases hjk:j=k
    ·subst hjk;exact fa
    ·rw[getD_set_ne true hjk] at hu;exact hu
   refine SE (fun a' h3=>ih (done.setIfInBounds j true) a' pq (ready_mono hr (Ne.symm hji)) h3.1 ?_) h2
   rw[Array.setIfInBounds_comm _ _ hji]
   exact h3.2
def MF (P:Program) (ops:Array Oper) (C:Array Bool→World→Prop) (Q:Act→Prop):List Oper→Nat→Act→Prop
 | [],_,a=>Q a
 | o::r,k,a=>∃ v,YG P ops C k o v a∧MF P ops C Q r (k+1) (a.put o.dst v)
theorem MH {Q:Act→Prop} (hs:Region.noSelect ops=true):∀ (l:List Oper) (k:Nat) (done:Array Bool) (a:Act),(∀ j,l[j]?=ops[k+j]?)→done.size=ops.size →
  (∀ j,j<k→done.getD j false=true)→Region.lexFrom md ops l.length k done=true→MF P ops C Q l k a →
  SD P md ops C (fun done a=>(Region.ready md ops done=[]∧∀ j,j<ops.size→done.getD j false=true)∧Q a) l.length done a
 | [],k,done,a,hl,hsz,hd,hB,h=>by
  refine⟨⟨by simpa[Region.lexFrom] using hB,fun j hj=>hd j ?_⟩,h⟩
  have:=hl 0
  simp only[List.getElem?_nil,bI] at this
  have:=Array.getElem?_eq_none_iff.1 this.symm
  omega
 | o::l,k,done,a,hl,hsz,hd,hB,h=>by
  have h0:ops[k]?=some o:=by simpa using (hl 0).symm
  simp only[aG,Region.lexFrom,aW] at hB
  obtain⟨⟨hr,hf⟩,hB'⟩:=hB
  obtain⟨v,hy,hK⟩:=h
  have hks:k<done.size:=by rw[hsz];exact(bY.1 h0).1
  refine LV h0 (Region.noSelect_spec hs) (fun _ _ h=>h.1.1) l.length done a (Region.free_spec h0 hf) (by simpa using hr) hy
   (MH hs l (k+1) _ _ (fun j=>by have:=hl (j+1);simpa[Nat.add_assoc,Nat.add_comm 1 j] using this) (by simpa using hsz) (fun j hj=>?_) hB' hK)
  by_cases e:k=j
  ·subst e;simp[hks]
  ·exact(getD_set_ne false e).trans (hd j (by omega))
theorem MI {id:Nat} {Q:Exit→Act→World→Prop} {a:Act} {w:World} (hm:P.follows .mixedOrders=true) (hB:Region.lexB .any ops=true)
  (hC:C (Array.replicate ops.size false) { w with drawn:=w.drawn+1 })
  (h:MF P ops C (fun a'=>∀ done w',(∀ j,j<ops.size→done.getD j false=true)→C done w'→Q .normal a' w') ops.toList 0 a):(Code.region id ops true).wp P Q a w:=by
 simp only[Region.lexB,aW] at hB
 have H:=MH (C:=C) (md:=.any) hB.1 ops.toList 0 (Array.replicate ops.size false) a (by simp) (by simp) (fun j hj=>absurd hj (by omega)) (by simpa using hB.2) h
 refine wp_region_any hm (V8 (C:=C) ?_ ops.size _ a _ hC (by simpa using H))
 rintro done a' w' hC' ⟨⟨h1,h2⟩,h3⟩
 exact⟨h1,h3 done w' h2 hC'⟩
end
def MG (w0:Ctx) (M M':Mem) (k:Nat) (done:Array Bool) (w:World):Prop:=Sat w0 (bif done.getD k false then M' else M) w
def TG (P:Program) (n:Nat) (w0:Ctx) (ops:Array Oper) (Q:Act→Prop) (k:Nat) (Mr M M':Mem) (i:Nat) (F:ZJ):Prop :=
 Mr.Sublist M→Mr.Sublist M'→∀ a,Fr n F a→MF P ops (MG w0 M M' k) Q (ops.toList.drop i) i a
section
variable {P:Program} {n:Nat} {w0:Ctx} {ops:Array Oper} {F F':ZJ} {Mr M M':Mem} {Q:Act→Prop} {k:Nat}
theorem MG.any {done:Array Bool} {w:World} (s1:Mr.Sublist M) (s2:Mr.Sublist M') (h:MG w0 M M' k done w):Sat w0 Mr w:=by
 unfold MG at h
 cases hb:done.getD k false with
 | true=>rw[hb] at h;exact h.sub s2
 | false=>rw[hb] at h;exact h.sub s1
theorem MG.same {done:Array Bool} {w w':World} {i:Nat} (hik:i≠k) (h:MG w0 M M' k done w) (hb:Below w.heap.size w w'):MG w0 M M' k (done.setIfInBounds i true) w':=by
 unfold MG at *
 rw[getD_set_ne false hik]
 exact h.later hb
theorem Hv (s1:Mr.Sublist M) (s2:Mr.Sublist M'):∀ (l:List Oper) (hs:List Nat) (F G:ZJ) (es:List (Nat×Nat)) (rest:List Oper) (i:Nat) (a:Act),Fr n F a →
  Vm P n ops.toList Mr l hs F=some (G,es)→(∀ p∈es,p.1=p.2)→(i+l.length≤k∨k<i)→(∀ a',Fr n G a'→MF P ops (MG w0 M M' k) Q rest (i+l.length) a') →
  MF P ops (MG w0 M M' k) Q (l++rest) i a
 | [],hs,F,G,es,rest,i,a,hF,h,he,hk,hn=>by
  simp only[Vm,aD,aU] at h
  obtain⟨rfl,rfl⟩:=h
  exact hn a hF
 | o::l,hs,F,G,es,rest,i,a,hF,h,he,hk,hn=>by
  have hik:i≠k:=by simp only[aG] at hk;omega
  have hk':i+1+l.length≤k∨k<i+1:=by simp only[aG] at hk;omega
  have hn':∀ a',Fr n G a'→MF P ops (MG w0 M M' k) Q rest (i+1+l.length) a':=fun a' ha'=>by
   have:=hn a' ha';rwa [aG,show i+(l.length+1)=i+1+l.length by omega] at this
  simp only[Vm] at h
  show MF P ops (MG w0 M M' k) Q (o::(l++rest)) i a
  split at h
  ·rename_i hg
   have hw:=QF hF hg
   split at h
   ·rename_i v es1 hv
    split at h
    ·rename_i F1 hF1
     split at h
     ·rename_i G' es2 hr
      simp only[aD,aU] at h
      obtain⟨rfl,rfl⟩:=h
      have ih:=Hv s1 s2 l _ F1 G' es2 rest (i+1) (a.put o.dst v) (KH hF hF1) hr (fun p hp=>he p (by simp[hp])) hk' hn'
      refine⟨v,.inl ⟨hw,fun done w _ hC=>?_⟩,ih⟩
      unfold gives
      rcases Gy hF (hC.any s1 s2) hv (fun p hp=>he p (by simp[hp])) with e|⟨e,rfl⟩
      ·rw[e];exact⟨rfl,hC.same hik (Below.refl _ _)⟩
      ·rw[e];exact⟨rfl,hC.same hik (Below.refl _ _)⟩
     ·cases h
    ·cases h
   ·cases h
  ·rename_i hg
   have hw:=QF hF hg
   split at h
   ·rename_i F1 hF1
    have ih:=Hv s1 s2 l _ F1 G es rest (i+1) (a.put o.dst undef) (KH hF hF1) h he hk' hn'
    exact⟨undef,.inr ⟨hw,rfl,fun done w _ hC=>hC.same hik (Below.refl _ _)⟩,ih⟩
   ·cases h
  ·cases h
theorem TG.run (j:Nat) (hs:List Nat) (F':ZJ) {i:Nat} (hij:Nat.ble i j=true) (hk:(Nat.ble j k||Nat.blt k i)=true) (hlen:Nat.ble j ops.toList.length=true)
  (hr:OkR (Vm P n ops.toList Mr ((ops.toList.drop i).take (j-i)) hs F) F') (h:TG P n w0 ops Q k Mr M M' j F'):TG P n w0 ops Q k Mr M M' i F:=by
 intro s1 s2 a hF
 obtain⟨G,es,hG,he,kr⟩:=BB hr
 have h1:=aL hij
 have h2:=aL hlen
 rw[UF ops.toList h1]
 have hl:((ops.toList.drop i).take (j-i)).length=j-i:=by rw[bG,bU];omega
 refine Hv s1 s2 _ _ _ _ _ _ i a hF hG he ?_ (fun a' ha'=>?_)
 ·rw[hl]
  simp only[fP] at hk
  rcases hk with hk|hk
  ·have:=aL hk;omega
  ·have:k+1≤i:=aL hk
   omega
 ·rw[hl,show i+(j-i)=j by omega]
  exact h s1 s2 a' (ha'.sub kr)
theorem OR (t:Nat) (b:Bool) {i:Nat} (ht:look t F=some (.bool b)) (h1:b=true→TG P n w0 ops Q k Mr M M' i ((t,.bool true)::F))
  (h2:b=false→TG P n w0 ops Q k Mr M M' i ((t,.bool false)::F)):TG P n w0 ops Q k Mr M M' i F:=by
 have key:∀ (c:Bool),b=c→∀ a,Fr n F a→Fr n ((t,.bool c)::F) a:=by
  rintro c rfl a hF
  refine hF.sub fun s v hv=>?_
  by_cases e:t=s
  ·subst e;rw[YI] at hv;rw[ht];exact hv
  ·rw[YV _ _ e] at hv;exact hv
 intro s1 s2 a hF
 cases hb:b with
 | true=>exact h1 hb s1 s2 a (key true hb a hF)
 | false=>exact h2 hb s1 s2 a (key false hb a hF)
theorem Zaf (t:Nat) (b:Bool) (j:Nat) (hs1 hs2:List Nat) (G:Bool→ZJ) {i:Nat} (ht:look t F=some (.bool b)) (hij:Nat.ble i j=true)
  (hk:(Nat.ble j k||Nat.blt k i)=true) (hlen:Nat.ble j ops.toList.length=true)
  (h1:OkR (Vm P n ops.toList Mr ((ops.toList.drop i).take (j-i)) hs1 ((t,.bool true)::F)) (G true))
  (h2:OkR (Vm P n ops.toList Mr ((ops.toList.drop i).take (j-i)) hs2 ((t,.bool false)::F)) (G false))
  (h:TG P n w0 ops Q k Mr M M' j (G b)):TG P n w0 ops Q k Mr M M' i F:=by
 refine OR t b ht (fun e=>?_) (fun e=>?_)
 ·subst e;exact TG.run j hs1 (G true) hij hk hlen h1 h
 ·subst e;exact TG.run j hs2 (G false) hij hk hlen h2 h
theorem TG.call (d:Option Tmp) (F':ZJ) {i:Nat} {f:FuncId} {args:Array Value} {v:Value} (hc:∀ w,Sat w0 Mr w→Calls P f args w (Ret w v)) (hik:Nat.beq i k=false)
  (hs:VD P ops.toList F i=some (f,args,d)) (hp:Gz F' (Gv n F d v)=some F') (h:TG P n w0 ops Q k Mr M M' (i+1) F'):TG P n w0 ops Q k Mr M M' i F:=by
 intro s1 s2 a hF
 have hne:i≠k:=fun e=>by subst e;simp at hik
 obtain⟨o,h1,h2,h3,h4⟩:=JI hF hs
 rw[h1]
 refine⟨v,.inl ⟨h2,fun done w _ hC=>?_⟩,by subst h4;exact h s1 s2 _ (Kv hF hp)⟩
 unfold gives
 rw[h3 w]
 exact(hc w (hC.any s1 s2)).mono fun e w' he=>⟨he.1,hC.same hne he.2⟩
theorem Zav (s:Sem Next) (d:Option Tmp) (v:Value) (F':ZJ) {i:Nat} (hv:∀ w,Sat w0 Mr w→s.run P w=.ok (.value v) w) (hik:Nat.beq i k=false)
  (hs:semAt ops.toList F i=some (s,d)) (hp:Gz F' (Gv n F d v)=some F') (h:TG P n w0 ops Q k Mr M M' (i+1) F'):TG P n w0 ops Q k Mr M M' i F:=by
 intro s1 s2 a hF
 have hne:i≠k:=fun e=>by subst e;simp at hik
 obtain⟨o,h1,h2,h3,h4⟩:=QU hF hs
 rw[h1]
 refine⟨v,.inl ⟨h2,fun done w _ hC=>?_⟩,by subst h4;exact h s1 s2 _ (Kv hF hp)⟩
 unfold gives
 rw[h3,hv w (hC.any s1 s2)]
 exact⟨rfl,hC.same hne (Below.refl _ _)⟩
def Ik (P:Program) (ops:List Oper) (F:ZJ) (M:Mem) (j b k:Nat):Option (Mem×List (Nat×Nat)) :=
 match semAt ops F k with
 | some (s,none)=>match mw P j b s M with
  | some (.skip,m,es)=>some (m,es)
  | _=>none
 | _=>none
def Aa:Option (Mem×List (Nat×Nat))→Option Mem
 | some (m,_)=>some m
 | none=>none
structure OkS (r:Option (Mem×List (Nat×Nat))) (M':Mem):Prop where
 fst:Aa r=some M':=by kernel_rfl
 snd:BA r=Wy r:=by kernel_rfl
theorem TG.store (j:Nat) (hlen:Nat.blt k ops.toList.length=true) (hr:∀ b,OkS (Ik P ops.toList F M j b k) M') (h:TG P n w0 ops Q k Mr M M' (k+1) F) :
  TG P n w0 ops Q k Mr M M' k F:=by
 intro s1 s2 a hF
 have hks:k<ops.size:=by have:=aL hlen;simp at this;omega
 obtain⟨s,hs⟩:∃ s,semAt ops.toList F k=some (s,none):=by
  have h0:=(hr 0).fst
  unfold Ik at h0
  split at h0
  ·rename_i s hs;exact⟨s,hs⟩
  ·cases h0
 obtain⟨o,h1,h2,h3,h4⟩:=QU hF hs
 rw[h1]
 refine⟨undef,.inl ⟨h2,fun done w hun hC=>?_⟩,?_⟩
 ·have hd:done.getD k false=false:=getD_both hun
  have hM:Sat w0 M w:=by unfold MG at hC;rw[hd] at hC;exact hC
  have hk:k<done.size:=by
   rcases dP k done.size with h'|h'
   ·exact h'
   ·simp[Array.getElem?_eq_none h'] at hun
  obtain⟨r1,r2⟩:=hr w.heap.size
  unfold Ik at r1 r2
  rw[hs] at r1 r2
  simp only at r1 r2
  unfold gives
  rw[h3]
  cases hm:mw P j w.heap.size s M with
  | none=>rw[hm] at r1;cases r1
  | some x =>
   obtain⟨x,m,es⟩:=x
   rw[hm] at r1 r2
   cases x <;> first|(cases r1;done)|skip
   simp only[Aa,aD] at r1
   subst r1
   obtain⟨w',wk,hM'⟩:=VW s M w _ _ _ hM rfl hm (UT _ r2)
   rw[wk]
   refine⟨rfl,?_⟩
   unfold MG
   have:(done.setIfInBounds k true).getD k false=true:=by simp[hk]
   rw[this]
   exact hM'
 ·rw[h4];exact h s1 s2 a hF
end
section
variable {P:Program} {n:Nat} {w0:Ctx} {ops:Array Oper} {F F':ZJ} {Mr M M':Mem} {Q:Exit→Act→World→Prop} {k:Nat}
theorem EU {i:Nat} (hi:Nat.ble ops.toList.length i=true) (hk:Nat.blt k ops.toList.length=true) (h:TE n w0 Q .normal F M') :
  TG P n w0 ops (fun a'=>∀ done w',(∀ j,j<ops.size→done.getD j false=true)→MG w0 M M' k done w'→Q .normal a' w') k Mr M M' i F:=by
 intro _ _ a hF
 rw[cM (aL hi)]
 intro done w' ja hM
 have hks:k<ops.size:=by have:=aL hk;simp at this;omega
 unfold MG at hM
 rw[ja k hks] at hM
 exact h a w' hF hM
theorem B9 {i:Nat} {y:Code} (hi:Nat.ble ops.toList.length i=true) (hk:Nat.blt k ops.toList.length=true) (h:TC P n w0 Q y F M') :
  TG P n w0 ops (fun a'=>∀ done w',(∀ j,j<ops.size→done.getD j false=true)→MG w0 M M' k done w'→(Exit.then (y.wp P Q) Q) .normal a' w') k Mr M M' i F :=
 EU (Q:=Exit.then (y.wp P Q) Q) hi hk h
theorem Hu {id:Nat} (k:Nat) (Mr M':Mem) (s1:Mr.Sublist M) (s2:Mr.Sublist M') (hm:P.follows .mixedOrders=true) (hB:Region.lexB .any ops=true)
  (h:TG P n w0 ops (fun a'=>∀ done w',(∀ j,j<ops.size→done.getD j false=true)→MG w0 M M' k done w'→Q .normal a' w') k Mr M M' 0 F):TC P n w0 Q (.region id ops true) F M:=by
 intro a w hF hM
 refine MI (C:=MG w0 M M' k) hm hB ?_ (by simpa using h s1 s2 a hF)
 unfold MG
 rw[getD_replicate_false]
 exact hM.drawn _
end
end Go.Eng
end
section
namespace Go.Eng
def Z0 (x:Int):Int:=IntKind.u64.wrap x
def wu8 (x:Int):Int:=IntKind.u8.wrap x
def ZC (x y:Int):Int:=if y<x then y else x
def LW (x y:Int):Int:=if y>x then y else x
def Z6 (k:IntKind) (x y:Int):Int:=k.wrap (BitVec.ofInt k.bits x &&& BitVec.ofInt k.bits y).toNat
def kor (k:IntKind) (x y:Int):Int:=k.wrap (BitVec.ofInt k.bits x ||| BitVec.ofInt k.bits y).toNat
def YB (k:IntKind) (x y:Int):Int:=k.wrap (BitVec.ofInt k.bits x &&& ~~~BitVec.ofInt k.bits y).toNat
theorem Zk {α:Type} {c:Bool} {x y r:α} (h:c=true) (hx:x=r):cond c x y=r:=by subst h;exact hx
theorem Zd {α:Type} {c:Bool} {x y r:α} (h:c=false) (hy:y=r):cond c x y=r:=by subst h;exact hy
theorem Q2 {α β γ:Type} {f:α→γ} {g:β→γ} {x:α ⊕ β} {s:α} {r:γ} (h:x=.inl s) (hx:f s=r):Sum.elim f g x=r:=by subst h;exact hx
theorem Q4 {α β γ:Type} {f:α→γ} {g:β→γ} {x:α ⊕ β} {s:β} {r:γ} (h:x=.inr s) (hx:g s=r):Sum.elim f g x=r:=by subst h;exact hx
end Go.Eng
namespace Go.Sky
structure P where
 (X Y:Int)
deriving DecidableEq
def P.c (x:P):Array Value:=#[.int .i64 x.X,.int .i64 x.Y]
def P.v (x:P):Value:=.agg #[.int .i64 x.X,.int .i64 x.Y]
def P.zero:P:=⟨0,0⟩
theorem P.one (x:P):x.c.toList.all Value.oneCell'=true:=rfl
structure Zr where
 (Radar Time Range Azimuth Height Code:Int)
deriving DecidableEq
def Zr.c (x:Zr):Array Value:=#[.int .i64 x.Radar,.int .i64 x.Time,.int .i64 x.Range,.int .i64 x.Azimuth,.int .i64 x.Height,.int .i64 x.Code]
def Zr.v (x:Zr):Value:=.agg #[.int .i64 x.Radar,.int .i64 x.Time,.int .i64 x.Range,.int .i64 x.Azimuth,.int .i64 x.Height,.int .i64 x.Code]
def Zr.zero:Zr:=⟨0,0,0,0,0,0⟩
theorem Zr.one (x:Zr):x.c.toList.all Value.oneCell'=true:=rfl
structure XZ where
 (Range Azimuth Time:Int)
deriving DecidableEq
def XZ.c (x:XZ):Array Value:=#[.int .i64 x.Range,.int .i64 x.Azimuth,.int .i64 x.Time]
def XZ.v (x:XZ):Value:=.agg #[.int .i64 x.Range,.int .i64 x.Azimuth,.int .i64 x.Time]
def XZ.zero:XZ:=⟨0,0,0⟩
theorem XZ.one (x:XZ):x.c.toList.all Value.oneCell'=true:=rfl
structure Zl where
 (ID:Int)
 (At:P)
 (Reach RangeError AzimuthError:Int)
deriving DecidableEq
def Zl.c (x:Zl):Array Value:=#[.int .i64 x.ID,.int .i64 x.At.X,.int .i64 x.At.Y,.int .i64 x.Reach,.int .i64 x.RangeError,.int .i64 x.AzimuthError]
def Zl.v (x:Zl):Value:=.agg #[.int .i64 x.ID,.int .i64 x.At.X,.int .i64 x.At.Y,.int .i64 x.Reach,.int .i64 x.RangeError,.int .i64 x.AzimuthError]
def Zl.zero:Zl:=⟨0,⟨0,0⟩,0,0,0⟩
theorem Zl.one (x:Zl):x.c.toList.all Value.oneCell'=true:=rfl
structure Track where
 (ID State Time:Int)
 (At Speed:P)
 (Height Rate Radius Code Hits Misses:Int)
deriving DecidableEq
def Track.c (x:Track):Array Value:=#[.int .i64 x.ID,.int .i64 x.State,.int .i64 x.Time,.int .i64 x.At.X,.int .i64 x.At.Y,.int .i64 x.Speed.X,.int .i64 x.Speed.Y,.int .i64 x.Height,.int .i64 x.Rate,.int .i64 x.Radius,.int .i64 x.Code,.int .i64 x.Hits,.int .i64 x.Misses]
def Track.v (x:Track):Value:=.agg #[.int .i64 x.ID,.int .i64 x.State,.int .i64 x.Time,.int .i64 x.At.X,.int .i64 x.At.Y,.int .i64 x.Speed.X,.int .i64 x.Speed.Y,.int .i64 x.Height,.int .i64 x.Rate,.int .i64 x.Radius,.int .i64 x.Code,.int .i64 x.Hits,.int .i64 x.Misses]
def Track.zero:Track:=⟨0,0,0,⟨0,0⟩,⟨0,0⟩,0,0,0,0,0,0⟩
theorem Track.one (x:Track):x.c.toList.all Value.oneCell'=true:=rfl
structure Zm where
 (Time:Int)
 (At:P)
 (Height Code Error:Int)
deriving DecidableEq
def Zm.c (x:Zm):Array Value:=#[.int .i64 x.Time,.int .i64 x.At.X,.int .i64 x.At.Y,.int .i64 x.Height,.int .i64 x.Code,.int .i64 x.Error]
def Zm.v (x:Zm):Value:=.agg #[.int .i64 x.Time,.int .i64 x.At.X,.int .i64 x.At.Y,.int .i64 x.Height,.int .i64 x.Code,.int .i64 x.Error]
def Zm.zero:Zm:=⟨0,⟨0,0⟩,0,0,0⟩
theorem Zm.one (x:Zm):x.c.toList.all Value.oneCell'=true:=rfl
structure Za where
 (Track:Track)
 (Slack:Int)
 (Last:Zm)
deriving DecidableEq
def Za.c (x:Za):Array Value:=#[.int .i64 x.Track.ID,.int .i64 x.Track.State,.int .i64 x.Track.Time,.int .i64 x.Track.At.X,.int .i64 x.Track.At.Y,.int .i64 x.Track.Speed.X,.int .i64 x.Track.Speed.Y,.int .i64 x.Track.Height,.int .i64 x.Track.Rate,.int .i64 x.Track.Radius,.int .i64 x.Track.Code,.int .i64 x.Track.Hits,.int .i64 x.Track.Misses,.int .i64 x.Slack,.int .i64 x.Last.Time,.int .i64 x.Last.At.X,.int .i64 x.Last.At.Y,.int .i64 x.Last.Height,.int .i64 x.Last.Code,.int .i64 x.Last.Error]
def Za.v (x:Za):Value:=.agg #[.int .i64 x.Track.ID,.int .i64 x.Track.State,.int .i64 x.Track.Time,.int .i64 x.Track.At.X,.int .i64 x.Track.At.Y,.int .i64 x.Track.Speed.X,.int .i64 x.Track.Speed.Y,.int .i64 x.Track.Height,.int .i64 x.Track.Rate,.int .i64 x.Track.Radius,.int .i64 x.Track.Code,.int .i64 x.Track.Hits,.int .i64 x.Track.Misses,.int .i64 x.Slack,.int .i64 x.Last.Time,.int .i64 x.Last.At.X,.int .i64 x.Last.At.Y,.int .i64 x.Last.Height,.int .i64 x.Last.Code,.int .i64 x.Last.Error]
def Za.zero:Za:=⟨⟨0,0,0,⟨0,0⟩,⟨0,0⟩,0,0,0,0,0,0⟩,0,⟨0,⟨0,0⟩,0,0,0⟩⟩
theorem Za.one (x:Za):x.c.toList.all Value.oneCell'=true:=rfl
structure Zg where
 (Hits Scans:Int)
deriving DecidableEq
def Zg.c (x:Zg):Array Value:=#[.int .i64 x.Hits,.int .i64 x.Scans]
def Zg.v (x:Zg):Value:=.agg #[.int .i64 x.Hits,.int .i64 x.Scans]
def Zg.zero:Zg:=⟨0,0⟩
theorem Zg.one (x:Zg):x.c.toList.all Value.oneCell'=true:=rfl
structure XD where
 (Time Level:Int)
deriving DecidableEq
def XD.c (x:XD):Array Value:=#[.int .i64 x.Time,.int .i64 x.Level]
def XD.v (x:XD):Value:=.agg #[.int .i64 x.Time,.int .i64 x.Level]
def XD.zero:XD:=⟨0,0⟩
theorem XD.one (x:XD):x.c.toList.all Value.oneCell'=true:=rfl
structure Sep where
 (Lateral Vertical:Int)
deriving DecidableEq
def Sep.c (x:Sep):Array Value:=#[.int .i64 x.Lateral,.int .i64 x.Vertical]
def Sep.v (x:Sep):Value:=.agg #[.int .i64 x.Lateral,.int .i64 x.Vertical]
def Sep.zero:Sep:=⟨0,0⟩
theorem Sep.one (x:Sep):x.c.toList.all Value.oneCell'=true:=rfl
structure Q6 where
 (A B Seconds:Int)
deriving DecidableEq
def Q6.c (x:Q6):Array Value:=#[.int .i64 x.A,.int .i64 x.B,.int .i64 x.Seconds]
def Q6.v (x:Q6):Value:=.agg #[.int .i64 x.A,.int .i64 x.B,.int .i64 x.Seconds]
def Q6.zero:Q6:=⟨0,0,0⟩
theorem Q6.one (x:Q6):x.c.toList.all Value.oneCell'=true:=rfl
structure Wc where
 (From To:Int)
deriving DecidableEq
def Wc.c (x:Wc):Array Value:=#[.int .i64 x.From,.int .i64 x.To]
def Wc.v (x:Wc):Value:=.agg #[.int .i64 x.From,.int .i64 x.To]
def Wc.zero:Wc:=⟨0,0⟩
theorem Wc.one (x:Wc):x.c.toList.all Value.oneCell'=true:=rfl
structure Node where
 (Time:Int)
 (At:P)
 (Height:Int)
deriving DecidableEq
def Node.c (x:Node):Array Value:=#[.int .i64 x.Time,.int .i64 x.At.X,.int .i64 x.At.Y,.int .i64 x.Height]
def Node.v (x:Node):Value:=.agg #[.int .i64 x.Time,.int .i64 x.At.X,.int .i64 x.At.Y,.int .i64 x.Height]
def Node.zero:Node:=⟨0,⟨0,0⟩,0⟩
theorem Node.one (x:Node):x.c.toList.all Value.oneCell'=true:=rfl
structure Ja where
 (Node:Node)
 (Radius Band:Int)
deriving DecidableEq
def Ja.c (x:Ja):Array Value:=#[.int .i64 x.Node.Time,.int .i64 x.Node.At.X,.int .i64 x.Node.At.Y,.int .i64 x.Node.Height,.int .i64 x.Radius,.int .i64 x.Band]
def Ja.v (x:Ja):Value:=.agg #[.int .i64 x.Node.Time,.int .i64 x.Node.At.X,.int .i64 x.Node.At.Y,.int .i64 x.Node.Height,.int .i64 x.Radius,.int .i64 x.Band]
def Ja.zero:Ja:=⟨⟨0,⟨0,0⟩,0⟩,0,0⟩
theorem Ja.one (x:Ja):x.c.toList.all Value.oneCell'=true:=rfl
structure ZB where
 (Need Of Misses Accel Place Speed:Int)
deriving DecidableEq
def ZB.c (x:ZB):Array Value:=#[.int .i64 x.Need,.int .i64 x.Of,.int .i64 x.Misses,.int .i64 x.Accel,.int .i64 x.Place,.int .i64 x.Speed]
def ZB.v (x:ZB):Value:=.agg #[.int .i64 x.Need,.int .i64 x.Of,.int .i64 x.Misses,.int .i64 x.Accel,.int .i64 x.Place,.int .i64 x.Speed]
def ZB.zero:ZB:=⟨0,0,0,0,0,0⟩
theorem ZB.one (x:ZB):x.c.toList.all Value.oneCell'=true:=rfl
structure followed where
 (f:Za)
 (history:Zg)
 (hit:Bool)
deriving DecidableEq
def followed.c (x:followed):Array Value:=#[.int .i64 x.f.Track.ID,.int .i64 x.f.Track.State,.int .i64 x.f.Track.Time,.int .i64 x.f.Track.At.X,.int .i64 x.f.Track.At.Y,.int .i64 x.f.Track.Speed.X,.int .i64 x.f.Track.Speed.Y,.int .i64 x.f.Track.Height,.int .i64 x.f.Track.Rate,.int .i64 x.f.Track.Radius,.int .i64 x.f.Track.Code,.int .i64 x.f.Track.Hits,.int .i64 x.f.Track.Misses,.int .i64 x.f.Slack,.int .i64 x.f.Last.Time,.int .i64 x.f.Last.At.X,.int .i64 x.f.Last.At.Y,.int .i64 x.f.Last.Height,.int .i64 x.f.Last.Code,.int .i64 x.f.Last.Error,.int .i64 x.history.Hits,.int .i64 x.history.Scans,.bool x.hit]
def followed.v (x:followed):Value:=.agg #[.int .i64 x.f.Track.ID,.int .i64 x.f.Track.State,.int .i64 x.f.Track.Time,.int .i64 x.f.Track.At.X,.int .i64 x.f.Track.At.Y,.int .i64 x.f.Track.Speed.X,.int .i64 x.f.Track.Speed.Y,.int .i64 x.f.Track.Height,.int .i64 x.f.Track.Rate,.int .i64 x.f.Track.Radius,.int .i64 x.f.Track.Code,.int .i64 x.f.Track.Hits,.int .i64 x.f.Track.Misses,.int .i64 x.f.Slack,.int .i64 x.f.Last.Time,.int .i64 x.f.Last.At.X,.int .i64 x.f.Last.At.Y,.int .i64 x.f.Last.Height,.int .i64 x.f.Last.Code,.int .i64 x.f.Last.Error,.int .i64 x.history.Hits,.int .i64 x.history.Scans,.bool x.hit]
def followed.zero:followed:=⟨⟨⟨0,0,0,⟨0,0⟩,⟨0,0⟩,0,0,0,0,0,0⟩,0,⟨0,⟨0,0⟩,0,0,0⟩⟩,⟨0,0⟩,false⟩
theorem followed.one (x:followed):x.c.toList.all Value.oneCell'=true:=rfl
end Go.Sky
end
section
namespace Go.Eng
def sV (s:Sem Value):Sem Next:=s.bind fun v=>.pure (.value v)
theorem JY {P:Program} {s:Sem Value} {w:World} {v:Value} (h:s.run P w=.ok v w):(sV s).run P w=.ok (.value v) w:=by
 have:(sV s)=(do let v ← s;pure (Next.value v)):=rfl
 rw[this]
 simp only[Sem.run_bind,h,Result.andThen_ok,Sem.run_pure]
theorem C4 {P:Program} {w:World} {t:TypeId} {k:IntKind} {a b:Int} (hb:b≠0):(sV (binOp .quo t (.int k a) (.int k b))).run P w=.ok (.value (.int k (k.wrap (a.tdiv b)))) w:=by
 refine JY ?_
 simp[binOp,Op.intDiv,hb]
theorem Bo {P:Program} {w:World} {t:TypeId} {k:IntKind} {a b:Int} (hb:b≠0):(sV (binOp .rem t (.int k a) (.int k b))).run P w=.ok (.value (.int k (a.tmod b))) w:=by
 refine JY ?_
 simp[binOp,Op.intDiv,hb]
theorem GM {P:Program} {w:World} {t:TypeId} {k k':IntKind} {a b:Int} (hb:0≤b):(sV (binOp .shl t (.int k a) (.int k' b))).run P w=.ok (.value (.int k (k.wrap (a*2 ^ (min b.toNat k.bits))))) w:=by
 refine JY ?_
 simp[binOp,Op.shift,show ¬ b<0 by omega]
theorem GN {P:Program} {w:World} {t:TypeId} {k k':IntKind} {a b:Int} (hb:0≤b):(sV (binOp .shr t (.int k a) (.int k' b))).run P w=.ok (.value (.int k (a.fdiv (2 ^ (min b.toNat k.bits))))) w:=by
 refine JY ?_
 simp[binOp,Op.shift,show ¬ b<0 by omega]
theorem add_add' (a:Addr) (i j:Nat):(a.add i).add j=a.add (i+j):=by
 unfold Addr.add
 by_cases hi:i=0 <;> by_cases hj:j=0 <;> simp[hi,hj,Nat.add_assoc]
theorem Wz (a:Addr) (n:Nat):(a.add n).block=a.block:=by unfold Addr.add;split <;> rfl
structure Rd (w:World) (sz:Nat) (A:Option Addr) (rows:List (Array Value)):Prop where
 short:rows.length<4611686018427387904
 row:∀ i r,rows[i]?=some r→r.size=sz∧∃ ad,A=some ad∧ad.block<w.heap.size∧∀ (j:Nat) (v:Value),r[j]?=some v→w.cell? (ad.add (i*sz+j))=some v
theorem Rd.below {w w':World} {sz:Nat} {A:Option Addr} {rows:List (Array Value)} (h:Rd w sz A rows) (hb:Below w.heap.size w w'):Rd w' sz A rows :=
 ⟨h.short,fun i r hi=>by
  obtain⟨h1,ad,h2,h3,h4⟩:=h.row i r hi
  exact⟨h1,ad,h2,bV h3 hb.size,fun j v hv=>(hb.cell (by rw[Wz];exact h3)).trans (h4 j v hv)⟩⟩
theorem Rd.sat {w0:World} {w:World} {M:Mem} {sz:Nat} {A:Option Addr} {rows:List (Array Value)} (h:Rd w0 sz A rows) (hM:Sat (cx w0) M w):Rd w sz A rows:=h.below hM.below
def Y4:Addr:=⟨0,0,none⟩
abbrev Ix (A:Option Addr) (n:Nat):Addr:=(A.getD Y4).add n
theorem Rd.at_ {w:World} {sz:Nat} {A:Option Addr} {rows:List (Array Value)} (h:Rd w sz A rows) {i:Nat} {r:Array Value} (hi:rows[i]?=some r) :
  r.size=sz∧A=some (A.getD Y4)∧(A.getD Y4).block<w.heap.size∧∀ (j:Nat) (v:Value),r[j]?=some v→w.cell? (((A.getD Y4).add (i*sz)).add j)=some v:=by
 obtain⟨h1,ad,h2,h3,h4⟩:=h.row i r hi
 subst h2
 exact⟨h1,rfl,h3,fun j v hv=>by rw[add_add'];exact h4 j v hv⟩
def WM (P:Program) (t:TypeId):Option Nat :=
 match P.underlying t with
 | some (.slice e)=>(P.info? e).map (·.size)
 | _=>none
theorem Zy {P:Program} {w:World} {t sz cap:Nat} {A:Option Addr} {rows:List (Array Value)} {len:Nat} {k:IntKind} {i:Int} (hR:Rd w sz A rows) (hl:len=rows.length)
  (hs:WM P t=some sz) (h0:0≤i) (h1:i<len) :
  (sV (Instr.indexAt t (.slice A len cap) (.int k i))).run P w=.ok (.value (.pointer (some ((A.getD Y4).add (i.toNat*sz))))) w:=by
 refine JY ?_
 unfold WM at hs
 split at hs
 ·rename_i e he
  have hlt:i.toNat<rows.length:=by omega
  obtain⟨_,h2,_⟩:=hR.at_ (aS hlt)
  cases ku:P.info? e with
  | none=>rw[ku] at hs;cases hs
  | some inf =>
   rw[ku] at hs
   simp only[cE,aD] at hs
   subst hs
   have hu:=run_underlying (P:=P) (w:=w) he
   obtain⟨ad,rfl⟩:∃ ad,A=some ad:=⟨_,h2⟩
   simp[Instr.indexAt,asIntOf,hu,sizeOf,typeInfo,ku,h0,h1]
 ·cases hs
theorem MJ (r:Array Value) (i:Nat) (h:i<r.size):r.extract i (i+1)=#[r[i]]:=by
 rw[Array.extract_succ_right (by omega) h,fQ (by omega)];rfl
theorem run_loadCellsFrom {P:Program} {w:World} (a:Addr) (r:Array Value):∀ (n i:Nat) (acc:Array Value),(∀ j v,i≤j→j<i+n→r[j]?=some v→w.cell? (a.add j)=some v)→i+n≤r.size →
  (loadCellsFrom a i n acc).run P w=.ok (acc++r.extract i (i+n)) w
 | 0,i,acc,_,_=>by rw[fQ (by omega)];simp[loadCellsFrom]
 | n+1,i,acc,h,hs=>by
  have hi:i<r.size:=by omega
  have h1:=h i r[i] (aR _) (by omega) (bW hi)
  have ih:=run_loadCellsFrom (P:=P) (w:=w) a r n (i+1) (acc.push r[i]) (fun j v h2 h3 h4=>h j v (by omega) (by omega) h4) (by omega)
  simp only[loadCellsFrom,Sem.run_bind]
  have hl:(load (a.add i)).run P w=.ok r[i] w:=by simp[load,Sem.run,h1]
  rw[hl,Result.andThen_ok,ih]
  have e:r.extract i (i+(n+1))=#[r[i]]++r.extract (i+1) (i+1+n):=by
   rw[← MJ r i hi,Array.extract_append_extract]
   congr 1 <;> omega
  rw[e,← Array.append_assoc,Array.push_eq_append]
def C5 (P:Program) (t:TypeId):Option Nat :=
 match P.underlying t with
 | some (.struct _)=>(P.info? t).map (·.size)
 | _=>none
def SG (P:Program) (t:TypeId):Bool :=
 match P.underlying t with
 | some (.struct _)=>false
 | some (.array _ _)=>false
 | some _=>true
 | none=>false
theorem Yd {P:Program} {w:World} {T sz n off i:Nat} {A:Option Addr} {rows:List (Array Value)} {r:Array Value} (v:Value) (hR:Rd w sz A rows) (hi:rows[i]?=some r)
  (hT:C5 P T=some n) (hle:Nat.ble (off+n) sz=true) (hv:Value.agg (r.extract off (off+n))=v) :
  (sV (Instr.loadAt T (.pointer (some (((A.getD Y4).add (i*sz)).add off))))).run P w=.ok (.value v) w:=by
 refine JY ?_
 obtain⟨h1,_,_,h4⟩:=hR.at_ hi
 have bo:=aL hle
 unfold C5 at hT
 split at hT
 ·rename_i fs hu
  cases ku:P.info? T with
  | none=>rw[ku] at hT;cases hT
  | some inf =>
   rw[ku] at hT
   simp only[cE,aD] at hT
   subst hT
   have hu':=run_underlying (P:=P) (w:=w) hu
   have hl:=run_loadCellsFrom (P:=P) (w:=w) (((A.getD Y4).add (i*sz)).add off) (r.extract off (off+inf.size)) inf.size 0 #[] (fun j u _ hj hu=>by
    rw[add_add']
    refine h4 _ _ ?_
    rw[Array.getElem?_extract] at hu
    split at hu
    ·exact hu
    ·cases hu) (by simp;omega)
   subst hv
   have hz:#[]++(r.extract off (off+inf.size)).extract 0 (0+inf.size)=r.extract off (off+inf.size):=by
    rw[Array.empty_append,bB]
    refine Array.extract_eq_self_of_le ?_
    simp;omega
   rw[hz] at hl
   simp[Instr.loadAt,Instr.sureAddr,loadVar,isAgg,hu',sizeOf,typeInfo,ku,loadCells,hl]
 ·cases hT
theorem Z3 {P:Program} {w:World} {T sz off i:Nat} {A:Option Addr} {rows:List (Array Value)} {r:Array Value} (v:Value) (hR:Rd w sz A rows) (hi:rows[i]?=some r)
  (hT:SG P T=true) (hv:r[off]?=some v) :
  (sV (Instr.loadAt T (.pointer (some (((A.getD Y4).add (i*sz)).add off))))).run P w=.ok (.value v) w:=by
 refine JY ?_
 obtain⟨h1,_,_,h4⟩:=hR.at_ hi
 have hc:=h4 off v hv
 unfold SG at hT
 cases hu:P.underlying T with
 | none=>rw[hu] at hT;cases hT
 | some d =>
  rw[hu] at hT
  have hu':=run_underlying (P:=P) (w:=w) hu
  cases d <;> first|(cases hT;done)|(simp[Instr.loadAt,Instr.sureAddr,loadVar,isAgg,hu',hc])
theorem ZR {α:Type} {f:α→Array Value} {l:List α} {i:Nat} {x:α} (h:l[i]?=some x):(l.map f)[i]?=some (f x):=by simp[h]
theorem getD_at {α:Type} (l:List α) (i:Nat) (z:α) (h:i<l.length):l[i]?=some (l[i]?.getD z):=by simp[h]
theorem drop_at {α:Type} {l:List α} {k:Nat} {x:α} (h:l[k]?=some x):l.drop k=x::l.drop (k+1):=by
 obtain⟨hlt,rfl⟩:=aK.1 h
 exact eT hlt
theorem Rd.cut {w:World} {sz cap:Nat} {A:Option Addr} {rows:List (Array Value)} (h:Rd w sz A rows) (lo hi:Nat) (de:rows.length≤cap) :
  Rd w sz (if cap=lo then A else A.map (·.add (lo*sz))) ((rows.take hi).drop lo):=by
 refine⟨by have:=h.short;simp;omega,fun i r hi'=>?_⟩
 rw[cV,fU] at hi'
 split at hi'
 case isFalse=>cases hi'
 rename_i hlt
 obtain⟨h1,ad,h2,h3,h4⟩:=h.row _ r hi'
 have hl:=(aK.1 hi').1
 rw[if_neg (by omega)]
 refine⟨h1,ad.add (lo*sz),by rw[h2];rfl,by rw[Wz];exact h3,fun j v hv=>?_⟩
 rw[add_add',show lo*sz+(i*sz+j)=(lo+i)*sz+j by rw[cP];omega]
 exact h4 j v hv
theorem VU {P:Program} {w:World} {t sz len cap:Nat} {A:Option Addr} {lo hi:Option Value} (l h:Nat) (hsz:WM P t=some sz)
  (hlo:lo=none∧l=0∨∃ k i,lo=some (.int k i)∧0≤i∧i.toNat=l) (hhi:hi=none∧h=len∨∃ k i,hi=some (.int k i)∧0≤i∧i.toNat=h) (h1:l≤h) (h2:h≤cap) :
  (sV (Instr.sliceAt t (.slice A len cap) lo hi none)).run P w=.ok (.value (.slice (if cap=l then A else A.map (fun a=>a.add (l*sz))) (h-l) (cap-l))) w:=by
 refine JY ?_
 unfold WM at hsz
 split at hsz
 case h_2=>cases hsz
 rename_i e ht
 cases hi':P.info? e with
 | none=>rw[hi'] at hsz;cases hsz
 | some inf =>
 rw[hi'] at hsz
 simp only[cE,aD] at hsz
 subst hsz
 have hu:=run_underlying (P:=P) (w:=w) ht
 rcases hlo with ⟨rfl,rfl⟩|⟨k,i,rfl,hi0,rfl⟩ <;> rcases hhi with ⟨rfl,rfl⟩|⟨k',i',rfl,fb,rfl⟩
 ·simp[Instr.sliceAt,Instr.slice,Instr.sliceBounds,hu,sizeOf,typeInfo,hi']
 ·have:i'≤cap:=by omega
  simp[Instr.sliceAt,Instr.slice,Instr.sliceBounds,Instr.sliceBound,asIntOf,hu,sizeOf,typeInfo,hi',fb,this]
 ·have:i≤h:=by omega
  simp[Instr.sliceAt,Instr.slice,Instr.sliceBounds,Instr.sliceBound,asIntOf,hu,sizeOf,typeInfo,hi',hi0,this]
 ·have h3:i'≤cap:=by omega
  simp[Instr.sliceAt,Instr.slice,Instr.sliceBounds,Instr.sliceBound,asIntOf,hu,sizeOf,typeInfo,hi',hi0,fb,h3]
  intro h5
  omega
theorem Rd.cutMap {α:Type} {f:α→Array Value} {w:World} {sz cap:Nat} {A:Option Addr} {l:List α} (h:Rd w sz A (l.map f)) (lo hi:Nat) (de:l.length≤cap) :
  Rd w sz (if cap=lo then A else A.map (fun a=>a.add (lo*sz))) (((l.take hi).drop lo).map f):=by
 have:=h.cut lo hi (cap:=cap) (by simpa using de)
 rwa [← gE,← List.map_drop] at this
theorem Rd.dropMap {α:Type} {f:α→Array Value} {w:World} {sz cap:Nat} {A:Option Addr} {l:List α} (h:Rd w sz A (l.map f)) (lo:Nat) (de:l.length≤cap) :
  Rd w sz (if cap=lo then A else A.map (fun a=>a.add (lo*sz))) ((l.drop lo).map f):=by
 have:=h.cutMap lo l.length de
 rwa [gF] at this
theorem Rd.own {w0:Ctx} {w:World} {M:Mem} {b T sz:Nat} {c:Array Value} (h:Sat w0 M w) (hm:Sum.inl (b,Obj.cells c T (0,0))∈M) (rows:List (Array Value)) (hs:rows.length<4611686018427387904)
  (hr:∀ i r,rows[i]?=some r→r.size=sz∧∀ j v,r[j]?=some v→c[i*sz+j]?=some v):Rd w sz (some ⟨b,0,none⟩) rows:=by
 refine⟨hs,fun i r hi=>?_⟩
 obtain⟨h1,h2⟩:=hr i r hi
 refine⟨h1,_,rfl,h.lt hm,fun j v hv=>?_⟩
 have h3:=h2 j v hv
 have h4:=h.block hm
 by_cases e:i*sz+j=0
 ·rw[e] at h3 ⊢
  simp[Addr.add,World.cell?,h4,h3]
 ·simp only[Addr.add,e,if_false,World.cell?,h4,bB]
  simpa using h3
theorem UU {sz:Nat}:∀ (rows:List (Array Value)),(∀ r∈rows,r.size=sz)→∀ i r,rows[i]?=some r→∀ (j:Nat) (v:Value),r[j]?=some v→(rows.map Array.toList).flatten[i*sz+j]?=some v
 | [],_,i,r,h,_,_,_=>by simp at h
 | r0::rows,ja,i,r,h,j,v,hv=>by
  have hr0:r0.size=sz:=ja r0 (by simp)
  cases i with
  | zero =>
   simp only[cG,aD] at h
   subst h
   have hj:j<r0.size:=(bY.1 hv).1
   rw[dR,List.flatten_cons,cA (by simpa using hj),eF,bB,aZ]
   exact hv
  | succ i =>
   simp only[cH] at h
   have ih:=UU rows (fun r hr=>ja r (by simp[hr])) i r h j v hv
   rw[dR,List.flatten_cons,dB (by simp[hr0,Nat.add_mul];omega),← ih]
   congr 1
   simp[hr0,Nat.add_mul];omega
theorem Rd.lit {w0:Ctx} {w:World} {M:Mem} {b T sz:Nat} {c:Array Value} (h:Sat w0 M w) (j:Nat) (rows:List (Array Value)) (hm:M[j]?=some (.inl (b,Obj.cells c T (0,0))))
  (hl:Nat.blt rows.length 4611686018427387904=true) (hs:rows.all (fun r=>Nat.beq r.size sz)=true) (hc:c.toList=(rows.map Array.toList).flatten):Rd w sz (some ⟨b,0,none⟩) rows:=by
 have ja:∀ r∈rows,r.size=sz:=fun r hr=>bE (bC.1 hs r hr)
 refine Rd.own h (aH hm) rows (aL hl) fun i r hi=>⟨ja r (aH hi),fun j v hv=>?_⟩
 rw[← aZ,hc]
 exact UU rows ja i r hi j v hv
theorem Jk (r:Array Value):[r][0]?=some r:=rfl
theorem Rd.nil (w:World) (sz:Nat):Rd w sz none []:=⟨by simp,fun i r h=>by simp at h⟩
def ic (x:Int):Array Value:=#[.int .i64 x]
def bc (b:Bool):Array Value:=#[.bool b]
section
variable {P:Program} {n:Nat} {w0:Ctx} {ops:Array Oper} {Q:Exit→Act→World→Prop} {F F':ZJ} {M M':Mem}
theorem Fr.rw {t:Nat} {v v':Value} {a:Act} (h:Fr n F a) (ht:look t F=some v) (e:v=v'):Fr n ((t,v')::F) a:=by
 subst e
 refine h.sub fun s u hu=>?_
 by_cases e:t=s
 ·subst e;rw[YI] at hu;rw[ht];exact hu
 ·rw[YV _ _ e] at hu;exact hu
theorem TL.rw (t:Nat) (v v':Value) {i:Nat} (ht:look t F=some v) (e:v=v') (h:TL P n w0 ops Q i ((t,v')::F) M):TL P n w0 ops Q i F M:=fun a w hF hM=>h a w (hF.rw ht e) hM
theorem TE.rw (t:Nat) (v v':Value) {x:Exit} (ht:look t F=some v) (e:v=v') (h:TE n w0 Q x ((t,v')::F) M):TE n w0 Q x F M:=fun a w hF hM=>h a w (hF.rw ht e) hM
theorem TC.cut {S:Type} (Fz:S→ZJ) (Mz:S→Mem) (J:S→Prop) {c:Code} (h:TC P n w0 (Exit.then (fun a w=>∃ s,J s∧Fr n (Fz s) a∧Sat w0 (Mz s) w) Q) c F M)
  (k:∀ s,J s→TE n w0 Q .normal (Fz s) (Mz s)):TC P n w0 Q c F M:=by
 intro a w hF hM
 refine wp_mono (h a w hF hM) fun e a' w' hq=>?_
 cases e with
 | normal=>obtain⟨s,hJ,hF',hM'⟩:=hq;exact k s hJ a' w' hF' hM'
 | _=>exact hq
theorem TE.cut {S:Type} {Fz:S→ZJ} {Mz:S→Mem} {J:S→Prop} (s:S) (hJ:J s) (hp:pick ((Fz s).map Prod.fst) F=some (Fz s)) (hs:(Mz s).Sublist M) :
  TE n w0 (Exit.then (fun a w=>∃ s,J s∧Fr n (Fz s) a∧Sat w0 (Mz s) w) Q) .normal F M :=
 fun _ _ hF hM=>⟨s,hJ,hF.sub (JQ _ _ _ hp),hM.sub hs⟩
end
theorem Ya (x:Int):w64 x=(x+9223372036854775808)%18446744073709551616-9223372036854775808:=IntKind.wrap_i64 x
theorem Zu {x:Int} (h:-9223372036854775808≤x∧x≤9223372036854775807):w64 x=x:=IntWalk.i64_in x h
theorem ZT (k:Nat) (h:k<4611686018427387904):Value.int .i64 (w64 ((k:Int)+1))=.int .i64 ((k+1:Nat):Int):=by
 rw[Zu (by omega)];rfl
theorem SH {a:Int} {n:Nat} (h:0≤a) (hn:0<n):0≤a.tmod n∧a.tmod n<n∧(a.tmod n).toNat<n:=by
 have h1:=Int.tmod_nonneg (n:Int) h
 have h2:=fV a (show (0:Int)<n by omega)
 omega
theorem sd {p:Prop} (h:p:=by first|omega|(rw[aQ];omega)|(rw[Zu (by omega)];omega)|(dsimp only;omega)|(rw[bU];omega)|(simp only[Ya];omega)|(simp only[bG] at *;omega)|(simp <;> omega)):p:=h
theorem sdr {p:Prop} (h:p:=by first|omega|(rw[aQ];omega)|(rw[Zu (by omega)];omega)|(dsimp only;omega)|(rw[bU];omega)|(simp only[Ya];omega)|exact(SH (by (first|(rw[Zu (by omega)];omega)|(simp only[Ya];omega))) (by omega)).1|exact(SH (by (first|(rw[Zu (by omega)];omega)|(simp only[Ya];omega))) (by omega)).2.1|exact(SH (by (first|(rw[Zu (by omega)];omega)|(simp only[Ya];omega))) (by omega)).2.2|(simp only[bG] at *;omega)|(simp <;> omega)):p:=h
theorem sg {p:Prop} (h:p:=by first|omega|(simp only[Ya];omega)|(simp <;> omega)):p:=h
theorem eS {α β:Type} (f:α→β) {a b:α} (h:b=a):f a=f b:=by rw[h]
theorem sa {p:Prop} (h:p:=by first|omega|(simp <;> omega)|(simp at * <;> omega)):p:=h
theorem sl {p:Prop} (h:p:=by first|omega|(simp <;> omega)|(simp at * <;> omega)|(simp only[Ya] at *;omega)|(simp only[aI,aG,bJ];omega)):p:=h
theorem sz {p:Prop} (h:p:=by first|omega|(simp;omega)|simp):p:=h
theorem ltN {k n:Nat} (h:decide ((k:Int)<(n:Int))=true):k<n:=by have:=of_decide_eq_true h;omega
theorem elN {α:Type} {l:List α} {k:Nat} (h:k<l.length):∃ x,l[k]?=some x:=⟨_,aS h⟩
theorem QE {α:Type} {l:List α} {k:Nat} (h:decide ((k:Int)<(l.length:Int))=false):l.drop k=[]:=cM (by have:=of_decide_eq_false h;omega)
theorem mN {k n:Nat} (h:k<n):n-(k+1)<n-k:=by omega
def bitsOf {α:Type}:Nat→List α→List α
 | _,[]=>[]
 | n,x::l=>bif Nat.beq (n%2) 1 then x::bitsOf (n/2) l else bitsOf (n/2) l
theorem W0 {α:Type}:∀ (n:Nat) (l:List α),(bitsOf n l).Sublist l
 | _,[]=>.slnil
 | n,x::l=>by
  unfold bitsOf
  cases Nat.beq (n%2) 1
  ·exact(W0 (n/2) l).cons x
  ·exact(W0 (n/2) l).cons_cons x
theorem sb {α:Type} {l' l:List α} (n:Nat) (h:bitsOf n l=l':=by kernel_rfl):l'.Sublist l:=by rw[← h];exact W0 n l
theorem SI {α:Type} (l:List α):(List.range l.length).filterMap (fun i=>l[i]?)=l:=by
 induction l with
 | nil=>rfl
 | cons x l ih =>
  rw[aG,List.range_succ_eq_map,fT]
  simp only[cG,List.filterMap_map]
  congr 1
theorem px {α:Type} {l l':List α} (ix:List Nat) (h:ix.filterMap (fun i=>l[i]?)=l':=by kernel_rfl) (hp:ix.isPerm (List.range l.length)=true:=by kernel_rfl):l.Perm l':=by
 have:=((List.isPerm_iff.1 hp).symm).filterMap (fun i=>l[i]?)
 rwa [SI,h] at this
def Xq {α β:Type} (x:α) (f:α→β):β:=f x
theorem Y5 {α β:Type} {x p:α} {f:α→β} {r:β} (h:x=p) (hx:f p=r):Xq x f=r:=by subst h;exact hx
end Go.Eng
end
section
namespace Go.Eng
theorem Ys {p:Prop} [Decidable p] (h:decide p=true):p:=of_decide_eq_true h
theorem Zt {p:Prop} [Decidable p] (h:decide p=false):¬ p:=of_decide_eq_false h
theorem Xf {a b:Int} (h:(a==b)=true):a=b:=eq_of_beq h
theorem Yh {a b:Int} (h:(a==b)=false):¬ a=b:=fun e=>by subst e;simp at h
theorem C6 {a b:Int} (h:(a != b)=true):¬ a=b:=fun e=>by subst e;simp at h
theorem Jb {a b:Int} (h:(a != b)=false):a=b:=by simpa using h
theorem Zx {a b:Bool} (h:(a||b)=false):a=false:=by simp at h;exact h.1
theorem Z9 {a b:Bool} (h:(a||b)=false):b=false:=by simp at h;exact h.2
theorem UV {a b:Bool} (h:(a||b)=true):a=true∨b=true:=by simpa using h
theorem Jl {a b:Bool} (h:(a&&b)=true):a=true:=by simp at h;exact h.1
theorem JZ {a b:Bool} (h:(a&&b)=true):b=true:=by simp at h;exact h.2
theorem Qq {a b:Bool} (h:(a&&b)=false):a=false∨b=false:=by cases a <;> simp_all
def C7 (P:Program) (t:TypeId) (cs:Array Value) (off:Nat):Option Value :=
 match mr P [] 0 (part t cs off) with
 | some (v,[])=>some v
 | _=>none
def OT (P:Program):Nat→TypeId→Value→Value→Option Bool
 | 0,_,_,_=>none
 | d+1,t,x,y =>
  match P.underlying t,x,y with
  | some .bool,.bool a,.bool b=>some (a==b)
  | some (.int _),.int k a,.int k' b=>if k=k' then some (a==b) else none
  | some (.struct fs),.agg xs,.agg ys =>
   if P.stoodInHeld t then none else
   fs.toList.foldr (fun f r=>if f.name ≠ "_" then
     match C7 P f.type xs f.offset,C7 P f.type ys f.offset with
     | some a,some b=>match OT P d f.type a b,r with
      | some p,some q=>some (p&&q)
      | _,_=>none
     | _,_=>none
    else r) (some true)
  | _,_,_=>none
theorem Fh {P:Program} {t:TypeId} {cs:Array Value} {off:Nat} {v:Value} (h:C7 P t cs off=some v) (w:World):(part t cs off).run P w=.ok v w:=by
 unfold C7 at h
 split at h
 ·rename_i u hm
  cases h
  exact QZ (Sat.start w) _ _ _ hm (by simp)
 ·cases h
theorem MK {P:Program}:∀ (d:Nat) (t:TypeId) (x y:Value) (b:Bool) (w:World),OT P d t x y=some b→(Op.equalIn d t x y).run P w=.ok b w
 | 0,_,_,_,_,_,h=>by cases h
 | d+1,t,x,y,b,w,h=>by
  unfold OT at h
  split at h
  ·rename_i u a c hu
   cases h
   exact run_equalIn_bool' w d t a c hu
  ·rename_i u k a k' c hu
   split at h
   ·rename_i hk
    subst hk
    cases h
    exact run_equalIn_int w d t k _ a c hu
   ·cases h
  ·rename_i u fs xs ys hu
   split at h
   ·cases h
   ·rename_i hs
    have hf:P.fieldsOf t=fs:=by unfold Program.fieldsOf;rw[hu]
    rw[run_equalIn_agg w d t xs ys (by rw[hf];exact hu) (by simpa using hs),hf]
    generalize fs.toList=l at h
    clear hf hu
    induction l generalizing b with
    | nil=>cases h;rfl
    | cons f l ih =>
     simp only[List.foldr_cons] at h
     unfold Op.eqFields
     by_cases hn:f.name ≠ "_"
     ·rw[if_pos hn] at h ⊢
      split at h
      ·rename_i a c ha hc
       split at h
       ·rename_i p q hp hq
        cases h
        simp only[Sem.run_bind,Fh ha w,Fh hc w,Result.andThen_ok,MK d f.type a c p w hp]
        cases p
        ·rfl
        ·exact ih q hq
       ·cases h
      ·cases h
     ·rw[if_neg hn] at h ⊢
      exact ih b h
  ·cases h
theorem C9 {P:Program} {t:TypeId} {xs ys:Array Value} {b:Bool} {x y:Operand} (hm:P.eqGuardType P.depth t=false) (h:OT P 10000 t (.agg xs) (.agg ys)=some b) (w:World) :
  (sV (do eqGuard .neq t x y (.agg xs) (.agg ys);binOp .neq t (.agg xs) (.agg ys))).run P w=.ok (.value (.bool (!b))) w :=
 JY (by rw[Sem.run_bind,run_eqGuard_agg w .neq t x y xs ys hm];show (binOp .neq t (.agg xs) (.agg ys)).run P w=_;rw[run_neq_struct,MK _ _ _ _ _ w h];rfl)
theorem BD (x y:Int):ZC x y≤x:=by unfold ZC;split <;> omega
theorem BE (x y:Int):ZC x y≤y:=by unfold ZC;split <;> omega
theorem GO (x y:Int):ZC x y=x∨ZC x y=y:=by unfold ZC;split <;> simp
theorem int_eq {k:IntKind} {x y:Int} (h:x=y):Value.int k x=.int k y:=by rw[h]
section
variable {P:Program} {n:Nat} {w0:Ctx} {Q:Exit→Act→World→Prop} {F:ZJ} {M:Mem}
theorem TQ.rw {ops:Array Oper} {Qa:Act→Prop} {N i:Nat} (t:Nat) (v v':Value) (ht:look t F=some v) (e:v=v') (h:TQ P n w0 ops Qa N i ((t,v')::F) M):TQ P n w0 ops Qa N i F M:=fun a hF=>h a (hF.rw ht e)
theorem TG.rw {ops:Array Oper} {Qa:Act→Prop} {k i:Nat} {Mr M':Mem} (t:Nat) (v v':Value) (ht:look t F=some v) (e:v=v') (h:TG P n w0 ops Qa k Mr M M' i ((t,v')::F)):TG P n w0 ops Qa k Mr M M' i F:=fun s1 s2 a hF=>h s1 s2 a (hF.rw ht e)
theorem TC.rw (t:Nat) (v v':Value) {c:Code} (ht:look t F=some v) (e:v=v') (h:TC P n w0 Q c ((t,v')::F) M):TC P n w0 Q c F M:=fun a w hF hM=>h a w (hF.rw ht e) hM
end
end Go.Eng
end
