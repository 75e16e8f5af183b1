/- What the climb functions compute, in plain Lean. Conditions: in each lemma. -/
import Derived.Test.YtbhemgagabdjkaaNum
namespace Go.Sky
open Go Go.Eng

def rok (x : ClimbReport) : Prop := (0 ≤ x.Time ∧ x.Time ≤ 200000) ∧ (0 ≤ x.Level ∧ x.Level ≤ 600)
def Good : Option ClimbReport → List ClimbReport → Prop
  | _, [] => True
  | p, x :: xs => rok x ∧ (∀ y, p = some y → y.Time < x.Time) ∧ Good (some x) xs
def prev (l : List ClimbReport) (k : Nat) : Option ClimbReport := if k = 0 then none else l[k - 1]?

theorem check_L1 (l : List ClimbReport) : ∀ (xs : List ClimbReport) (k : Nat), xs = l.drop k →
    (climb_Check_L1 l xs k = .inl () ∧ Good (prev l k) xs) ∨ (∃ e : Int, e ≠ 0 ∧ climb_Check_L1 l xs k = .inr e ∧ ¬ Good (prev l k) xs)
  | [], _, _ => .inl ⟨rfl, trivial⟩
  | x :: xs, k, hx => by
    have hk : l[k]? = some x := by
      have := congrArg (fun t => t[0]?) hx
      simpa using this.symm
    have hlt := (List.getElem?_eq_some_iff.1 hk).1
    have hx' : xs = l.drop (k + 1) := by
      have := congrArg List.tail hx
      simpa using this
    have hp : prev l (k + 1) = some x := by simpa [prev] using hk
    have ih := check_L1 l xs (k + 1) hx'
    rw [hp] at ih
    unfold climb_Check_L1
    by_cases h1 : rok x
    · have e1 : ((((decide (x.Time < 0)) || (decide (x.Time > 200000))) || (decide (x.Level < 0))) || (decide (x.Level > 600))) = false := by
        unfold rok at h1
        simp; omega
      rw [e1, cond_false]
      by_cases h2 : k = 0
      · subst h2
        have e2 : decide (((0 : Nat) : Int) > 0) = false := by simp
        rw [e2, cond_false]
        rcases ih with ⟨i1, i2⟩ | ⟨e, i0, i1, i2⟩
        · exact .inl ⟨i1, h1, by simp [prev], i2⟩
        · exact .inr ⟨e, i0, i1, fun hh => i2 hh.2.2⟩
      · have e2 : decide ((k : Int) > 0) = true := by simp; omega
        rw [e2, cond_true]
        obtain ⟨y, hy⟩ : ∃ y, l[k - 1]? = some y := ⟨_, List.getElem?_eq_getElem (by omega)⟩
        have hpk : prev l k = some y := by simp [prev, h2, hy]
        rw [hy, hpk]
        by_cases h3 : x.Time ≤ y.Time
        · have e3 : decide (x.Time ≤ ((some y).getD ClimbReport.zero).Time) = true := decide_eq_true h3
          rw [e3, cond_true]
          exact .inr ⟨12, by decide, rfl, fun hh => by have := hh.2.1 y rfl; omega⟩
        · have e3 : decide (x.Time ≤ ((some y).getD ClimbReport.zero).Time) = false := decide_eq_false h3
          rw [e3, cond_false]
          rcases ih with ⟨i1, i2⟩ | ⟨e, i0, i1, i2⟩
          · exact .inl ⟨i1, h1, fun z hz => by cases hz; omega, i2⟩
          · exact .inr ⟨e, i0, i1, fun hh => i2 hh.2.2⟩
    · have e1 : ((((decide (x.Time < 0)) || (decide (x.Time > 200000))) || (decide (x.Level < 0))) || (decide (x.Level > 600))) = true := by
        unfold rok at h1
        simp; omega
      rw [e1, cond_true]
      exact .inr ⟨4, by decide, rfl, fun hh => h1 hh.1⟩

def Valid (l : List ClimbReport) : Prop := l.length ≤ 64 ∧ Good none l
theorem check_iff (l : List ClimbReport) : climb_Check l = 0 ↔ Valid l := by
  unfold climb_Check Valid
  by_cases h : (l.length : Int) > 64
  · rw [decide_eq_true h, cond_true]
    constructor
    · intro hh; cases hh
    · intro hh; omega
  · rw [decide_eq_false h, cond_false]
    have h64 : l.length ≤ 64 := by omega
    rcases check_L1 l l 0 rfl with ⟨e, g⟩ | ⟨n, h0, e, g⟩
    · rw [e]; exact ⟨fun _ => ⟨h64, g⟩, fun _ => rfl⟩
    · rw [e]; exact ⟨fun hh => absurd hh h0, fun hh => absurd hh.2 g⟩

theorem Good.front {p : Option ClimbReport} : ∀ {xs ys : List ClimbReport}, Good p (xs ++ ys) → Good p xs
  | [], _, _ => trivial
  | _ :: _, _, h => ⟨h.1, h.2.1, Good.front h.2.2⟩
theorem Good.rok : ∀ {p : Option ClimbReport} {xs : List ClimbReport}, Good p xs → ∀ x ∈ xs, rok x
  | _, [], _, _, hx => by cases hx
  | _, y :: ys, h, x, hx => by
    rcases List.mem_cons.1 hx with rfl | hx
    · exact h.1
    · exact Good.rok h.2.2 x hx
theorem Good.after : ∀ {y : ClimbReport} {xs : List ClimbReport}, Good (some y) xs → ∀ x ∈ xs, y.Time < x.Time
  | _, [], _, _, hx => by cases hx
  | y, z :: zs, h, x, hx => by
    have h1 := h.2.1 y rfl
    rcases List.mem_cons.1 hx with rfl | hx
    · exact h1
    · have := Good.after h.2.2 x hx; omega
theorem Good.sorted : ∀ {p : Option ClimbReport} {xs : List ClimbReport}, Good p xs → xs.Pairwise (fun a b => a.Time < b.Time)
  | _, [], _ => List.Pairwise.nil
  | _, _ :: _, h => List.Pairwise.cons (Good.after h.2.2) (Good.sorted h.2.2)
theorem Valid.front {xs ys : List ClimbReport} (h : Valid (xs ++ ys)) : Valid xs := ⟨by have := h.1; simp at this; omega, h.2.front⟩

/-- The bounds of the rate that two reports give. -/
def lp (x y : ClimbReport) : Int := (num_DivDown (w64 (16 * (w64 ((w64 (100 * (w64 (y.Level - x.Level)))) - 99)))) (w64 (y.Time - x.Time))).1
def hp (x y : ClimbReport) : Int := (num_DivUp (w64 (16 * (w64 ((w64 (100 * (w64 (y.Level - x.Level)))) + 99)))) (w64 (y.Time - x.Time))).1

theorem imax_le (x y v : Int) : imax x y ≤ v ↔ x ≤ v ∧ y ≤ v := by unfold imax; split <;> omega
theorem le_imin (x y v : Int) : v ≤ imin x y ↔ v ≤ x ∧ v ≤ y := by unfold imin; split <;> omega

theorem rates_L2 (x : ClimbReport) : ∀ (ys : List ClimbReport) (k : Nat) (a b v : Int),
    ((climb_Rates_L2 x ys k a b).1 ≤ v ↔ a ≤ v ∧ ∀ y ∈ ys, lp x y ≤ v) ∧ (v ≤ (climb_Rates_L2 x ys k a b).2 ↔ v ≤ b ∧ ∀ y ∈ ys, v ≤ hp x y)
  | [], _, _, _, _ => by simp [climb_Rates_L2]
  | y :: ys, k, a, b, v => by
    have ih := rates_L2 x ys (k + 1) (imax a (lp x y)) (imin b (hp x y)) v
    have e : climb_Rates_L2 x (y :: ys) k a b = climb_Rates_L2 x ys (k + 1) (imax a (lp x y)) (imin b (hp x y)) := rfl
    rw [e, ih.1, ih.2, imax_le, le_imin]
    simp only [List.mem_cons, forall_eq_or_imp, and_assoc, and_self]

theorem rates_L1 (l : List ClimbReport) : ∀ (xs : List ClimbReport) (k : Nat) (a b v : Int), xs = l.drop k →
    ((climb_Rates_L1 l xs k a b).1 ≤ v ↔ a ≤ v ∧ xs.Pairwise (fun x y => lp x y ≤ v)) ∧ (v ≤ (climb_Rates_L1 l xs k a b).2 ↔ v ≤ b ∧ xs.Pairwise (fun x y => v ≤ hp x y))
  | [], _, _, _, _, _ => by simp [climb_Rates_L1]
  | x :: xs, k, a, b, v, hx => by
    have hx' : xs = l.drop (k + 1) := by
      have := congrArg List.tail hx
      simpa using this
    have e : climb_Rates_L1 l (x :: xs) k a b = climb_Rates_L1 l xs (k + 1) (climb_Rates_L2 x xs 0 a b).1 (climb_Rates_L2 x xs 0 a b).2 := by
      rw [hx']; rfl
    have ih := rates_L1 l xs (k + 1) (climb_Rates_L2 x xs 0 a b).1 (climb_Rates_L2 x xs 0 a b).2 v hx'
    have i2 := rates_L2 x xs 0 a b v
    rw [e, ih.1, ih.2, i2.1, i2.2, List.pairwise_cons, List.pairwise_cons]
    exact ⟨and_assoc, and_assoc⟩

/-- The bounds before they are compared. -/
def rlo (l : List ClimbReport) : Int := (climb_Rates_L1 l l 0 (-3200) 3200).1
def rhi (l : List ClimbReport) : Int := (climb_Rates_L1 l l 0 (-3200) 3200).2
theorem rlo_le (l : List ClimbReport) (v : Int) : rlo l ≤ v ↔ -3200 ≤ v ∧ l.Pairwise (fun x y => lp x y ≤ v) := (rates_L1 l l 0 _ _ v rfl).1
theorem le_rhi (l : List ClimbReport) (v : Int) : v ≤ rhi l ↔ v ≤ 3200 ∧ l.Pairwise (fun x y => v ≤ hp x y) := (rates_L1 l l 0 _ _ v rfl).2

theorem rates_eq (l : List ClimbReport) : (climb_Check l ≠ 0 ∧ climb_Rates l = (0, 0, climb_Check l)) ∨ Valid l ∧ ((rhi l < rlo l ∧ climb_Rates l = (0, 0, 8)) ∨ rlo l ≤ rhi l ∧ climb_Rates l = (rlo l, rhi l, 0)) := by
  unfold climb_Rates
  by_cases h : climb_Check l = 0
  · right
    refine ⟨(check_iff l).1 h, ?_⟩
    rw [h]
    have e : ((0 : Int) != 0) = false := rfl
    simp only [e, cond_false, bindv]
    by_cases h2 : rlo l ≤ rhi l
    · right
      refine ⟨h2, ?_⟩
      have e2 : decide ((climb_Rates_L1 l l 0 (-3200) 3200).1 > (climb_Rates_L1 l l 0 (-3200) 3200).2) = false := decide_eq_false (by unfold rlo rhi at h2; omega)
      show cond (decide ((climb_Rates_L1 l l 0 (-3200) 3200).1 > (climb_Rates_L1 l l 0 (-3200) 3200).2)) _ _ = _
      rw [e2]; rfl
    · left
      refine ⟨by omega, ?_⟩
      have e2 : decide ((climb_Rates_L1 l l 0 (-3200) 3200).1 > (climb_Rates_L1 l l 0 (-3200) 3200).2) = true := decide_eq_true (by unfold rlo rhi at h2; omega)
      show cond (decide ((climb_Rates_L1 l l 0 (-3200) 3200).1 > (climb_Rates_L1 l l 0 (-3200) 3200).2)) _ _ = _
      rw [e2]; rfl
  · left
    refine ⟨h, ?_⟩
    have e : (climb_Check l != 0) = true := by simpa using h
    simp only [e, cond_true]

theorem rlo_front (xs ys : List ClimbReport) : rlo xs ≤ rlo (xs ++ ys) := by
  have h := (rlo_le (xs ++ ys) _).1 (Int.le_refl _)
  exact (rlo_le xs _).2 ⟨h.1, (List.pairwise_append.1 h.2).1⟩
theorem rhi_front (xs ys : List ClimbReport) : rhi (xs ++ ys) ≤ rhi xs := by
  have h := (le_rhi (xs ++ ys) _).1 (Int.le_refl _)
  exact (le_rhi xs _).2 ⟨h.1, (List.pairwise_append.1 h.2).1⟩
end Go.Sky
