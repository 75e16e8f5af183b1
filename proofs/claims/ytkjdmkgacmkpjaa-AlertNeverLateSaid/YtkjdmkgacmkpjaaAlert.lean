/- First and Certain as a scan over the seconds. Conditions: in each theorem. -/
import Derived.Test.YtkjdmkgacmkpjaaWc
import Derived.Test.YtkjdmkgacmkpjaaKin
namespace Go.Sky
open Go Go.Eng Go.Glue

def scanv (ok hit : Nat → Bool) : Nat → Nat → Int × Int
  | 0, _ => (0, 8)
  | m + 1, k => if ok k = true then (if hit k = true then ((k : Int), 0) else scanv ok hit m (k + 1)) else (0, 12)

theorem scanv_mono {ok hit1 hit2 : Nat → Bool} {K : Nat} (h : ∀ j, j < K → ok j = true → hit1 j = true → hit2 j = true) : ∀ (m k : Nat) (n : Int), m + k ≤ K → scanv ok hit1 m k = (n, 0) →
    ∃ n', scanv ok hit2 m k = (n', 0) ∧ n' ≤ n ∧ (k : Int) ≤ n'
  | 0, k, n, _, e => by cases e
  | m + 1, k, n, hK, e => by
    unfold scanv at e ⊢
    by_cases ho : ok k = true
    · rw [if_pos ho] at e ⊢
      by_cases h1 : hit1 k = true
      · rw [if_pos h1] at e
        rw [if_pos (h k (by omega) ho h1)]
        injection e with e1 _
        exact ⟨k, rfl, by omega, by omega⟩
      · rw [if_neg h1] at e
        obtain ⟨n', g1, g2, g3⟩ := scanv_mono h m (k + 1) n (by omega) e
        have hlow : (k : Int) ≤ n := by omega
        by_cases h2 : hit2 k = true
        · rw [if_pos h2]; exact ⟨k, rfl, hlow, by omega⟩
        · rw [if_neg h2]; exact ⟨n', g1, g2, by omega⟩
    · rw [if_neg ho] at e; cases e
theorem scanv_congr {ok ok' hit hit' : Nat → Bool} {K : Nat} (ho : ∀ j, j < K → ok j = ok' j) (hh : ∀ j, j < K → ok j = true → hit j = hit' j) : ∀ (m k : Nat), m + k ≤ K → scanv ok hit m k = scanv ok' hit' m k
  | 0, _, _ => rfl
  | m + 1, k, hK => by
    unfold scanv
    rw [← ho k (by omega)]
    by_cases h : ok k = true
    · rw [if_pos h, if_pos h, hh k (by omega) h, scanv_congr ho hh m (k + 1) (by omega)]
    · rw [if_neg h, if_neg h]

def at_ (a b : FilterTrack) (acc : Int) (k : Nat) : FilterTrack × Int := filter_Predict a (w64 (imax a.Track.Time b.Track.Time + (k : Int))) acc
def okF (a b : FilterTrack) (acc : Int) (k : Nat) : Bool := decide ((at_ a b acc k).2 = 0 ∧ (filter_Predict b (w64 (imax a.Track.Time b.Track.Time + (k : Int))) acc).2 = 0)
def hitF (T : Int → Int → Int → Int → Sep → Bool) (a b : FilterTrack) (acc climb : Int) (c : Sep) (k : Nat) : Bool :=
  T (plane_Square (at_ a b acc k).1.Track.At (filter_Predict b (w64 (imax a.Track.Time b.Track.Time + (k : Int))) acc).1.Track.At)
    (w64 ((at_ a b acc k).1.Track.Radius + (filter_Predict b (w64 (imax a.Track.Time b.Track.Time + (k : Int))) acc).1.Track.Radius))
    (imax (w64 ((at_ a b acc k).1.Track.Height - (filter_Predict b (w64 (imax a.Track.Time b.Track.Time + (k : Int))) acc).1.Track.Height)) (w64 ((filter_Predict b (w64 (imax a.Track.Time b.Track.Time + (k : Int))) acc).1.Track.Height - (at_ a b acc k).1.Track.Height)))
    (w64 (200 + w64 (climb * w64 (w64 (w64 (2 * w64 (imax a.Track.Time b.Track.Time + (k : Int))) - a.Track.Time) - b.Track.Time)))) c

theorem ok_not (a b : FilterTrack) (acc : Int) (k : Nat) : (((at_ a b acc k).2 != 0) || ((filter_Predict b (w64 (imax a.Track.Time b.Track.Time + (k : Int))) acc).2 != 0)) = !(okF a b acc k) := by
  unfold okF
  rw [Bool.eq_iff_iff]; simp

theorem first_L2 (a b : FilterTrack) (acc cl : Int) (c : Sep) : ∀ (m k : Nat), Sum.elim (fun _ => ((0 : Int), (8 : Int))) (fun r => r) (search_first_L2 a b acc cl c m k) = scanv (okF a b acc) (hitF alert_First_1 a b acc cl c) m k
  | 0, _ => rfl
  | m + 1, k => by
    have ih := first_L2 a b acc cl c m (k + 1)
    show Sum.elim _ _ (cond (((at_ a b acc k).2 != 0) || ((filter_Predict b (w64 (imax a.Track.Time b.Track.Time + (k : Int))) acc).2 != 0)) (.inr (0, 12)) (cond (hitF alert_First_1 a b acc cl c k) (.inr ((k : Int), 0)) (search_first_L2 a b acc cl c m (k + 1)))) = _
    rw [ok_not]
    unfold scanv
    cases okF a b acc k
    · rfl
    · cases hitF alert_First_1 a b acc cl c k
      · exact ih
      · rfl
theorem certain_L2 (a b : FilterTrack) (acc cl : Int) (c : Sep) : ∀ (m k : Nat), Sum.elim (fun _ => ((0 : Int), (8 : Int))) (fun r => r) (search_certain_L2 a b acc cl c m k) = scanv (okF a b acc) (hitF alert_Certain_1 a b acc cl c) m k
  | 0, _ => rfl
  | m + 1, k => by
    have ih := certain_L2 a b acc cl c m (k + 1)
    show Sum.elim _ _ (cond (((at_ a b acc k).2 != 0) || ((filter_Predict b (w64 (imax a.Track.Time b.Track.Time + (k : Int))) acc).2 != 0)) (.inr (0, 12)) (cond (hitF alert_Certain_1 a b acc cl c k) (.inr ((k : Int), 0)) (search_certain_L2 a b acc cl c m (k + 1)))) = _
    rw [ok_not]
    unfold scanv
    cases okF a b acc k
    · rfl
    · cases hitF alert_Certain_1 a b acc cl c k
      · exact ih
      · rfl

def sepIn (s : Sep) (sec acc cl : Int) : Prop := (0 ≤ s.Lateral ∧ s.Lateral ≤ 1000000) ∧ (0 ≤ s.Vertical ∧ s.Vertical ≤ 60000) ∧ (0 ≤ sec ∧ sec ≤ 300) ∧ (0 ≤ acc ∧ acc ≤ 20) ∧ (0 ≤ cl ∧ cl ≤ 200)
instance (s : Sep) (sec acc cl : Int) : Decidable (sepIn s sec acc cl) := by unfold sepIn; infer_instance
theorem out_alert {n h : Int} : alert_out n h = decide (¬ (0 ≤ n ∧ n ≤ h)) := by
  unfold alert_out; rw [Bool.eq_iff_iff]; simp

def searchv (T : Int → Int → Int → Int → Sep → Bool) (a b : FilterTrack) (s : Sep) (sec acc cl : Int) : Int × Int :=
  if filter_Check a = 0 then if filter_Check b = 0 then if sepIn s sec acc cl then scanv (okF a b acc) (hitF T a b acc cl s) (sec + 1).toNat 0 else (0, 4) else (0, filter_Check b) else (0, filter_Check a)

theorem tail_eq {s : Sep} {sec acc cl : Int} {v : Int × Int} : (cond (alert_out s.Lateral 1000000) (0, 4) (cond (alert_out s.Vertical 60000) (0, 4) (cond (alert_out sec 300) (0, 4) (cond (alert_out acc 20) (0, 4) (cond (alert_out cl 200) (0, 4) v))))) = if sepIn s sec acc cl then v else (0, 4) := by
  simp only [ite_of_cond, out_alert, decide_eq_true_eq]
  by_cases h : sepIn s sec acc cl
  · rw [if_pos h]
    obtain ⟨h1, h2, h3, h4, h5⟩ := h
    rw [if_neg (by omega), if_neg (by omega), if_neg (by omega), if_neg (by omega), if_neg (by omega)]
  · rw [if_neg h]
    by_cases h1 : 0 ≤ s.Lateral ∧ s.Lateral ≤ 1000000
    · by_cases h2 : 0 ≤ s.Vertical ∧ s.Vertical ≤ 60000
      · by_cases h3 : 0 ≤ sec ∧ sec ≤ 300
        · by_cases h4 : 0 ≤ acc ∧ acc ≤ 20
          · have h5 : ¬ (0 ≤ cl ∧ cl ≤ 200) := fun h5 => h ⟨h1, h2, h3, h4, h5⟩
            rw [if_neg (by omega), if_neg (by omega), if_neg (by omega), if_neg (by omega), if_pos h5]
          · rw [if_neg (by omega), if_neg (by omega), if_neg (by omega), if_pos h4]
        · rw [if_neg (by omega), if_neg (by omega), if_pos h3]
      · rw [if_neg (by omega), if_pos h2]
    · rw [if_pos h1]

theorem First_eq (a b : FilterTrack) (s : Sep) (sec acc cl : Int) : alert_First a b s sec acc cl = searchv alert_First_1 a b s sec acc cl := by
  show Sum.elim (fun _ => cond (alert_out s.Lateral 1000000) (0, 4) (cond (alert_out s.Vertical 60000) (0, 4) (cond (alert_out sec 300) (0, 4) (cond (alert_out acc 20) (0, 4) (cond (alert_out cl 200) (0, 4) (Sum.elim (fun _ => (0, 8)) (fun r => r) (search_first_L2 a b acc cl s (sec + 1).toNat 0))))))) (fun r => r)
    (cond (filter_Check a != 0) (.inr (0, filter_Check a)) (cond (filter_Check b != 0) (.inr (0, filter_Check b)) (.inl ()))) = _
  rw [first_L2, tail_eq]
  unfold searchv
  by_cases h1 : filter_Check a = 0
  · by_cases h2 : filter_Check b = 0
    · simp [h1, h2]
    · have e2 : (filter_Check b != 0) = true := by simpa using h2
      rw [if_pos h1, if_neg h2, e2, h1]; rfl
  · have e1 : (filter_Check a != 0) = true := by simpa using h1
    rw [if_neg h1, e1]; rfl
theorem Certain_eq (a b : FilterTrack) (s : Sep) (sec acc cl : Int) : alert_Certain a b s sec acc cl = searchv alert_Certain_1 a b s sec acc cl := by
  show Sum.elim (fun _ => cond (alert_out s.Lateral 1000000) (0, 4) (cond (alert_out s.Vertical 60000) (0, 4) (cond (alert_out sec 300) (0, 4) (cond (alert_out acc 20) (0, 4) (cond (alert_out cl 200) (0, 4) (Sum.elim (fun _ => (0, 8)) (fun r => r) (search_certain_L2 a b acc cl s (sec + 1).toNat 0))))))) (fun r => r)
    (cond (filter_Check a != 0) (.inr (0, filter_Check a)) (cond (filter_Check b != 0) (.inr (0, filter_Check b)) (.inl ()))) = _
  rw [certain_L2, tail_eq]
  unfold searchv
  by_cases h1 : filter_Check a = 0
  · by_cases h2 : filter_Check b = 0
    · simp [h1, h2]
    · have e2 : (filter_Check b != 0) = true := by simpa using h2
      rw [if_pos h1, if_neg h2, e2, h1]; rfl
  · have e1 : (filter_Check a != 0) = true := by simpa using h1
    rw [if_neg h1, e1]; rfl

/-- What the numbers of one second are. -/
theorem hit_eq {a b : FilterTrack} {acc cl : Int} {k : Nat} (T : Int → Int → Int → Int → Sep → Bool) (c : Sep) (ha : a.In) (hb : b.In) (hcl : 0 ≤ cl ∧ cl ≤ 200) (hk : k < 301) (ho : okF a b acc k = true) :
    ∃ sq R H B : Int, hitF T a b acc cl c k = T sq R H B c ∧ hitF T b a acc cl c k = T sq R H B c ∧ okF b a acc k = true ∧ (0 ≤ sq ∧ sq ≤ 8000000000000) ∧ (0 ≤ R ∧ R ≤ 8000000) ∧ (0 ≤ H ∧ H ≤ 60000) ∧ (200 ≤ B ∧ B ≤ 200000000) ∧
      (∀ T' c', hitF T' a b acc cl c' k = T' sq R H B c') := by
  have ho' : okF b a acc k = true := by
    unfold okF at_ at *
    rw [imax_comm b.Track.Time]
    simp only [decide_eq_true_eq] at ho ⊢
    exact ⟨ho.2, ho.1⟩
  unfold okF at ho
  simp only [decide_eq_true_eq] at ho
  have hp := predict_in ho.1
  have hq := predict_in ho.2
  have hm := imax_ge a.Track.Time b.Track.Time
  have ta := ha.1.1
  have tb := hb.1.1
  have sqb := square_eq hp.1.2.1 hq.1.2.1
  have rp := hp.1.2.2.2.2
  have rq := hq.1.2.2.2.2
  have hhp := hp.1.2.2.1
  have hhq := hq.1.2.2.1
  have wt : w64 (imax a.Track.Time b.Track.Time + (k : Int)) = imax a.Track.Time b.Track.Time + (k : Int) := w64_id (by omega)
  have hmul : 0 ≤ cl * (2 * (imax a.Track.Time b.Track.Time + (k : Int)) - a.Track.Time - b.Track.Time) ∧ cl * (2 * (imax a.Track.Time b.Track.Time + (k : Int)) - a.Track.Time - b.Track.Time) ≤ 200 * 401000 :=
    ⟨Int.mul_nonneg hcl.1 (by omega), Int.mul_le_mul hcl.2 (by omega) (by omega) (by decide)⟩
  have wB : w64 (200 + w64 (cl * w64 (w64 (w64 (2 * w64 (imax a.Track.Time b.Track.Time + (k : Int))) - a.Track.Time) - b.Track.Time))) = 200 + cl * (2 * (imax a.Track.Time b.Track.Time + (k : Int)) - a.Track.Time - b.Track.Time) := by
    rw [wt, w64_id (x := 2 * (imax a.Track.Time b.Track.Time + (k : Int))) (by omega), w64_id (x := 2 * (imax a.Track.Time b.Track.Time + (k : Int)) - a.Track.Time) (by omega), w64_id (x := 2 * (imax a.Track.Time b.Track.Time + (k : Int)) - a.Track.Time - b.Track.Time) (by omega), w64_id (x := cl * _) (by omega), w64_id (by omega)]
  have wB' : w64 (200 + w64 (cl * w64 (w64 (w64 (2 * w64 (imax a.Track.Time b.Track.Time + (k : Int))) - b.Track.Time) - a.Track.Time))) = 200 + cl * (2 * (imax a.Track.Time b.Track.Time + (k : Int)) - a.Track.Time - b.Track.Time) := by
    have e : 2 * (imax a.Track.Time b.Track.Time + (k : Int)) - b.Track.Time - a.Track.Time = 2 * (imax a.Track.Time b.Track.Time + (k : Int)) - a.Track.Time - b.Track.Time := by omega
    rw [wt, w64_id (x := 2 * (imax a.Track.Time b.Track.Time + (k : Int))) (by omega), w64_id (x := 2 * (imax a.Track.Time b.Track.Time + (k : Int)) - b.Track.Time) (by omega), w64_id (x := 2 * (imax a.Track.Time b.Track.Time + (k : Int)) - b.Track.Time - a.Track.Time) (by omega), e, w64_id (x := cl * _) (by omega), w64_id (by omega)]
  have key : ∀ T' c', hitF T' a b acc cl c' k = T' (plane_Square (at_ a b acc k).1.Track.At (filter_Predict b (w64 (imax a.Track.Time b.Track.Time + (k : Int))) acc).1.Track.At) ((at_ a b acc k).1.Track.Radius + (filter_Predict b (w64 (imax a.Track.Time b.Track.Time + (k : Int))) acc).1.Track.Radius)
      (imax ((at_ a b acc k).1.Track.Height - (filter_Predict b (w64 (imax a.Track.Time b.Track.Time + (k : Int))) acc).1.Track.Height) ((filter_Predict b (w64 (imax a.Track.Time b.Track.Time + (k : Int))) acc).1.Track.Height - (at_ a b acc k).1.Track.Height)) (200 + cl * (2 * (imax a.Track.Time b.Track.Time + (k : Int)) - a.Track.Time - b.Track.Time)) c' := by
    intro T' c'
    unfold hitF
    rw [wB, w64_id (x := (at_ a b acc k).1.Track.Radius + _) (by unfold at_; omega), w64_id (x := (at_ a b acc k).1.Track.Height - _) (by unfold at_; omega), w64_id (x := _ - (at_ a b acc k).1.Track.Height) (by unfold at_; omega)]
  have g3 := imax_ge ((at_ a b acc k).1.Track.Height - (filter_Predict b (w64 (imax a.Track.Time b.Track.Time + (k : Int))) acc).1.Track.Height) ((filter_Predict b (w64 (imax a.Track.Time b.Track.Time + (k : Int))) acc).1.Track.Height - (at_ a b acc k).1.Track.Height)
  refine ⟨_, _, _, _, key T c, ?_, ho', sqb.2, by unfold at_; omega, by unfold at_ at g3 ⊢; omega, by omega, key⟩
  unfold hitF at_
  rw [imax_comm b.Track.Time, wB', square_comm hq.1.2.1 hp.1.2.1, Int.add_comm (filter_Predict b _ acc).1.Track.Radius, imax_comm (w64 ((filter_Predict b _ acc).1.Track.Height - _))]
  rw [w64_id (x := (filter_Predict a _ acc).1.Track.Radius + _) (by omega), w64_id (x := (filter_Predict a _ acc).1.Track.Height - _) (by omega), w64_id (x := _ - (filter_Predict a _ acc).1.Track.Height) (by omega)]
end Go.Sky
