/- What the law of the directions asks, round by round. Conditions: none. -/
import Derived.Test.YtdfofmhbmnphnaaDoorGw
namespace Go.Sky
open Go Go.Eng

def Out (v : P) : Bool := ((((decide (v.X < (-2000000))) || (decide (v.X > 2000000))) || (decide (v.Y < (-2000000)))) || (decide (v.Y > 2000000)))
theorem sec_east : Sec 1024 5 0 := of_decide_eq_true (by kernel_rfl)
theorem of_east : ofF (⟨5, 0⟩ : P) = (1024, 0) := by
  have hs := secN_eq (by decide) sec_east
  unfold ofF
  simp only
  rw [if_neg (by decide), if_neg (by decide), hs]
  congr 1
theorem tab_512 : tabS 512 = 11585 := by kernel_rfl
theorem tab_1536 : tabS 1536 = 11585 := by kernel_rfl
theorem tab_1365 : tabS 1365 = 14193 := by kernel_rfl
theorem sin_512 : angle_Sin 512 = 11585 := by rw [sin_tab]; exact tab_512
theorem cos_512 : angle_Cos 512 = 11585 := by
  rw [show (512 : Int) = ((512 : Nat) : Int) from rfl, cos_nat]; exact tab_1536
theorem cos_341 : angle_Cos 341 = 14193 := by
  rw [show (341 : Int) = ((341 : Nat) : Int) from rfl, cos_nat]; exact tab_1365
theorem vec_works : angle_Vector 512 1000 = (⟨707, 707⟩, 0) := by
  unfold angle_Vector
  rw [sin_512, cos_512]
  rfl
theorem works_true : skywaylaw1_angleWorks = true := by
  unfold skywaylaw1_angleWorks
  rw [of_east, vec_works, cos_341]
  rfl

theorem law_out {v : P} {a b : Int} (h2 : Out v = true) (hp : a = (ofF v).1 ∧ b = (ofF v).2) : ((b == 4) && (a == 0)) = true := by
  have : ofF v = (0, 4) := by
    unfold Out at h2
    simp only [Bool.or_eq_true, decide_eq_true_eq] at h2
    unfold ofF; rw [if_pos (by omega)]
  rw [this] at hp
  rw [hp.1, hp.2]; rfl
theorem eqb_zero {v : P} (h : P.eqb v P.zero = true) : v.X = 0 ∧ v.Y = 0 := by
  unfold P.eqb P.zero at h
  simpa using h
theorem eqb_nzero {v : P} (h : P.eqb v P.zero = false) : ¬ (v.X = 0 ∧ v.Y = 0) := by
  rintro ⟨h1, h2⟩
  unfold P.eqb P.zero at h
  simp [h1, h2] at h
theorem law_zero {v : P} {a b : Int} (h2 : Out v = false) (h3 : P.eqb v P.zero = true) (hp : a = (ofF v).1 ∧ b = (ofF v).2) : ((b == 10) && (a == 0)) = true := by
  have e := of_zero (of_inb h2) (eqb_zero h3)
  rw [hp.1, hp.2, ← e.1, ← e.2]; rfl
theorem of_snd {v : P} (h2 : Out v = false) (h3 : P.eqb v P.zero = false) : (ofF v).2 = 0 := by
  have h := of_inb h2
  have h0 := eqb_nzero h3
  unfold OfIn at h
  unfold ofF; rw [if_neg (by omega), if_neg h0]
theorem law_bad {v : P} {a b : Int} (h2 : Out v = false) (h3 : P.eqb v P.zero = false) (h4 : (b != 0) = true) (hp : a = (ofF v).1 ∧ b = (ofF v).2) : False := by
  rw [hp.2, of_snd h2 h3] at h4; cases h4
def LawInv (v : P) (s : Int) : Prop := (0 ≤ s ∧ s ≤ 4096) ∧ ∀ j : Nat, (j : Int) < s → ¬ Sec j v.X v.Y
theorem law_start (v : P) : LawInv v 0 := ⟨by omega, fun j hj => by omega⟩
section
variable {v : P} {s r2 r3 r4 r5 r6 r7 : Int}
theorem law_vals (hv : OfIn v) (hs : 0 ≤ s ∧ s < 4096) (hr2 : angle_Cos s = r2) (hr3 : angle_Sin s = r3) (hr4 : angle_Sin (w64 (s + 1)) = r4) (hr5 : angle_Cos (w64 (s + 1)) = r5) (hr6 : angle_Sin s = r6) (hr7 : angle_Cos s = r7) :
    w64 ((w64 (r2 * v.X)) - (w64 (r3 * v.Y))) = cs s.toNat * v.X - sn s.toNat * v.Y ∧ w64 ((w64 (r4 * v.Y)) - (w64 (r5 * v.X))) = v.Y * sn (s.toNat + 1) - v.X * cs (s.toNat + 1) ∧ w64 ((w64 (r6 * v.X)) + (w64 (r7 * v.Y))) = sn s.toNat * v.X + cs s.toNat * v.Y := by
  obtain ⟨k, rfl⟩ : ∃ k : Nat, s = k := ⟨s.toNat, by omega⟩
  rw [w64_id (x := (k : Int) + 1) (by omega), show (k : Int) + 1 = ((k + 1 : Nat) : Int) by omega] at hr4 hr5
  rw [cos_nat] at hr2 hr5 hr7
  rw [sin_nat] at hr3 hr4 hr6
  rw [Int.toNat_natCast, ← hr2, ← hr3, ← hr4, ← hr5, ← hr6, ← hr7]
  unfold OfIn at hv
  have a1 := mul_in (cs_in k) ⟨hv.1, hv.2.1⟩
  have a2 := mul_in (sn_in k) ⟨hv.1, hv.2.1⟩
  have a3 := mul_in (cs_in k) hv.2.2
  have a4 := mul_in (sn_in k) hv.2.2
  have a5 := mul_in (cs_in (k + 1)) ⟨hv.1, hv.2.1⟩
  have a6 := mul_in (sn_in (k + 1)) hv.2.2
  refine ⟨?_, ?_, ?_⟩
  · rw [w64_id (x := cs k * v.X) (by omega), w64_id (x := sn k * v.Y) (by omega), w64_id (by omega)]
  · rw [w64_id (x := sn (k + 1) * v.Y) (by omega), w64_id (x := cs (k + 1) * v.X) (by omega), w64_id (by omega), Int.mul_comm (sn (k + 1)), Int.mul_comm (cs (k + 1))]
  · rw [w64_id (x := sn k * v.X) (by omega), w64_id (x := cs k * v.Y) (by omega), w64_id (by omega)]
/-- A round of the law's search. -/
structure LawR (v : P) (s r2 r3 r4 r5 r6 r7 : Int) : Prop where
  hv : OfIn v
  hi : LawInv v s
  hs : s < 4096
  hr2 : angle_Cos s = r2
  hr3 : angle_Sin s = r3
  hr4 : angle_Sin (w64 (s + 1)) = r4
  hr5 : angle_Cos (w64 (s + 1)) = r5
  hr6 : angle_Sin s = r6
  hr7 : angle_Cos s = r7
theorem law_sec (L : LawR v s r2 r3 r4 r5 r6 r7) : (((decide ((w64 ((w64 (r2 * v.X)) - (w64 (r3 * v.Y)))) < 0)) || (decide ((w64 ((w64 (r4 * v.Y)) - (w64 (r5 * v.X)))) ≤ 0))) || (decide ((w64 ((w64 (r6 * v.X)) + (w64 (r7 * v.Y)))) ≤ 0))) = false ↔ Sec s.toNat v.X v.Y := by
  obtain ⟨hv, hi, hs, hr2, hr3, hr4, hr5, hr6, hr7⟩ := L
  obtain ⟨e1, e2, e3⟩ := law_vals hv ⟨hi.1.1, hs⟩ hr2 hr3 hr4 hr5 hr6 hr7
  rw [e1, e2, e3]
  simp only [Bool.or_eq_false_iff, decide_eq_false_iff_not]
  unfold Sec
  constructor
  · intro h; exact ⟨Int.not_lt.1 h.1.1, Int.not_le.1 h.1.2, Int.not_le.1 h.2⟩
  · intro h; exact ⟨⟨Int.not_lt.2 h.1, Int.not_le.2 h.2.1⟩, Int.not_le.2 h.2.2⟩
theorem law_next (L : LawR v s r2 r3 r4 r5 r6 r7) (c : (((decide ((w64 ((w64 (r2 * v.X)) - (w64 (r3 * v.Y)))) < 0)) || (decide ((w64 ((w64 (r4 * v.Y)) - (w64 (r5 * v.X)))) ≤ 0))) || (decide ((w64 ((w64 (r6 * v.X)) + (w64 (r7 * v.Y)))) ≤ 0))) = true) : LawInv v (w64 (s + 1)) := by
  have hi' := L.hi
  have hs := L.hs
  unfold LawInv at hi' ⊢
  rw [w64_id (by omega)]
  refine ⟨by omega, fun j hj => ?_⟩
  by_cases hjs : (j : Int) < s
  · exact hi'.2 j hjs
  · intro hx
    have hj : s.toNat = j := by omega
    rw [← hj] at hx
    rw [(law_sec L).2 hx] at c
    cases c
theorem law_ret {a b : Int} (L : LawR v s r2 r3 r4 r5 r6 r7) (h3 : P.eqb v P.zero = false) (hp : a = (ofF v).1 ∧ b = (ofF v).2) (c : (((decide ((w64 ((w64 (r2 * v.X)) - (w64 (r3 * v.Y)))) < 0)) || (decide ((w64 ((w64 (r4 * v.Y)) - (w64 (r5 * v.X)))) ≤ 0))) || (decide ((w64 ((w64 (r6 * v.X)) + (w64 (r7 * v.Y)))) ≤ 0))) = false) :
    a = if w64 ((w64 (r2 * v.X)) - (w64 (r3 * v.Y))) ≤ w64 ((w64 (r4 * v.Y)) - (w64 (r5 * v.X))) then s else (w64 (s + 1)).tmod 4096 := by
  have hx := (law_sec L).1 c
  obtain ⟨hv, hi, hs, hr2, hr3, hr4, hr5, hr6, hr7⟩ := L
  have hN := secN_eq (by omega) hx
  obtain ⟨e1, e2, _⟩ := law_vals hv ⟨hi.1.1, hs⟩ hr2 hr3 hr4 hr5 hr6 hr7
  have h0 := eqb_nzero h3
  have hs0 := hi.1.1
  rw [hp.1, e1, e2, w64_id (by omega), Int.tmod_eq_emod_of_nonneg (by omega)]
  unfold OfIn at hv
  unfold ofF
  rw [if_neg (by omega), if_neg h0, hN]
  generalize cs s.toNat * v.X - sn s.toNat * v.Y = p
  generalize v.Y * sn (s.toNat + 1) - v.X * cs (s.toNat + 1) = q
  by_cases d : p ≤ q
  · rw [if_pos d, if_pos d]; exact Int.toNat_of_nonneg hs0
  · rw [if_neg d, if_neg d]; omega
theorem law_T {a b : Int} (L : LawR v s r2 r3 r4 r5 r6 r7) (h3 : P.eqb v P.zero = false) (hp : a = (ofF v).1 ∧ b = (ofF v).2) (c : (((decide ((w64 ((w64 (r2 * v.X)) - (w64 (r3 * v.Y)))) < 0)) || (decide ((w64 ((w64 (r4 * v.Y)) - (w64 (r5 * v.X)))) ≤ 0))) || (decide ((w64 ((w64 (r6 * v.X)) + (w64 (r7 * v.Y)))) ≤ 0))) = false)
    (d : decide ((w64 ((w64 (r2 * v.X)) - (w64 (r3 * v.Y)))) ≤ (w64 ((w64 (r4 * v.Y)) - (w64 (r5 * v.X))))) = true) : (a == s) = true := by
  have := law_ret L h3 hp c
  rw [if_pos (of_decide_eq_true d)] at this
  exact beq_iff_eq.2 this
theorem law_F {a b : Int} (L : LawR v s r2 r3 r4 r5 r6 r7) (h3 : P.eqb v P.zero = false) (hp : a = (ofF v).1 ∧ b = (ofF v).2) (c : (((decide ((w64 ((w64 (r2 * v.X)) - (w64 (r3 * v.Y)))) < 0)) || (decide ((w64 ((w64 (r4 * v.Y)) - (w64 (r5 * v.X)))) ≤ 0))) || (decide ((w64 ((w64 (r6 * v.X)) + (w64 (r7 * v.Y)))) ≤ 0))) = false)
    (d : decide ((w64 ((w64 (r2 * v.X)) - (w64 (r3 * v.Y)))) ≤ (w64 ((w64 (r4 * v.Y)) - (w64 (r5 * v.X))))) = false) : (a == ((w64 (s + 1)).tmod 4096)) = true := by
  have := law_ret L h3 hp c
  rw [if_neg (of_decide_eq_false d)] at this
  exact beq_iff_eq.2 this
end
theorem law_end {v : P} {s : Int} (h3 : P.eqb v P.zero = false) (hi : LawInv v s) (hs : decide (s < 4096) = false) : False := by
  obtain ⟨h1, h2⟩ := secN_ok (eqb_nzero h3)
  have hs := of_decide_eq_false hs
  exact hi.2 _ (by omega) h2
theorem law_dec {v : P} {s : Int} (hi : LawInv v s) (hs : decide (s < 4096) = true) : (4096 - w64 (s + 1)).toNat < (4096 - s).toNat := by
  have h1 := hi.1
  have h2 := of_decide_eq_true hs
  rw [w64_id (by omega)]; omega
end Go.Sky
