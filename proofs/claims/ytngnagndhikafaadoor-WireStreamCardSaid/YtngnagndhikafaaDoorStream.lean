/- A stream of frames, with other bytes between them, as Scan reads it. Conditions: in each theorem. -/
import Derived.Test.YtngnagndhikafaaDoorWhole
import Derived.Test.YtngnagndhikafaaDoorHb
namespace Go.Sky
open Go Go.Eng

theorem ext_tail (s t : ByteArray) : (s ++ t).extract s.size (s ++ t).size = t := by
  apply ByteArray.ext
  rw [ByteArray.data_extract, ByteArray.data_append]
  apply Array.ext_getElem?
  intro i
  rw [Array.getElem?_extract]
  have hz : s.data.size = s.size := rfl
  have hz2 : (s.data ++ t.data).size = s.size + t.size := by rw [Array.size_append]; rfl
  have hz3 : (s ++ t).size = s.size + t.size := ByteArray.size_append
  have hz4 : t.data.size = t.size := rfl
  rcases Nat.lt_or_ge i t.size with h | h
  · rw [if_pos (by omega), Array.getElem?_append_right (by omega)]
    congr 1
    omega
  · rw [if_neg (by omega), Array.getElem?_eq_none (by omega)]
theorem ext_one (s : ByteArray) (a : Nat) : (s.extract a s.size).extract 1 (s.extract a s.size).size = s.extract (a + 1) s.size := by
  apply ByteArray.ext
  rw [ByteArray.size_extract, ByteArray.data_extract, ByteArray.data_extract, ByteArray.data_extract, Array.extract_extract]
  congr 1
  omega

/-- The bytes s are read as n lost bytes and the frames fs, whatever follows. -/
structure Par (s : ByteArray) (n : Nat) (fs : List WireFrame) : Prop where
  run : ∀ (t : ByteArray) (m : Nat) (out : List WireFrame) (lost : Nat), lost + n ≤ 1000000 → wire_Scan_L1 (n + fs.length + m) (s ++ t) out (lost : Int) = wire_Scan_L1 m t (out ++ fs) ((lost + n : Nat) : Int)
  len : n + fs.length ≤ s.size

theorem Par.nil : Par ⟨#[]⟩ 0 [] := ⟨fun t m out lost _ => by
  have e : (⟨#[]⟩ : ByteArray) ++ t = t := by
    apply ByteArray.ext
    rw [ByteArray.data_append]
    exact Array.empty_append
  rw [e, List.append_nil, Nat.add_zero]
  show wire_Scan_L1 (0 + 0 + m) _ _ _ = _
  rw [Nat.add_zero, Nat.zero_add], Nat.le_refl _⟩
theorem Par.app {s s' : ByteArray} {n n' : Nat} {fs fs' : List WireFrame} (h1 : Par s n fs) (h2 : Par s' n' fs') : Par (s ++ s') (n + n') (fs ++ fs') := by
  refine ⟨fun t m out lost hl => ?_, ?_⟩
  · rw [ByteArray.append_assoc, show n + n' + (fs ++ fs').length + m = n + fs.length + (n' + fs'.length + m) by rw [List.length_append]; omega, h1.run _ _ _ _ (by omega), h2.run _ _ _ _ (by omega), List.append_assoc, Nat.add_assoc]
  · have := h1.len
    have := h2.len
    rw [List.length_append, ByteArray.size_append]
    omega
theorem Par.frame {f : WireFrame} {l : List Int} {t p q : Nat} (w : Whole f l t p q) : Par (strOf l) 0 [f] := by
  have hsz : (strOf l).size = 11 + 16 * p := by rw [size_strOf, w.len]
  refine ⟨fun t m out lost _ => ?_, by rw [hsz]; show 0 + 1 ≤ _; omega⟩
  rw [show 0 + [f].length + m = m + 1 by show 0 + 1 + m = _; omega]
  conv => lhs; unfold wire_Scan_L1
  simp only
  rw [back_dec w t]
  simp only
  rw [show ((0 : Int) == 0) = true from rfl, cond_true, show (11 + 16 * (p : Int)).toNat = (strOf l).size by rw [hsz]; omega, ext_tail]
  rfl
theorem dec_noise {u : ByteArray} (h0 : 0 < u.size) (h : bat u 0 ≠ 83) : (wire_Decode u).2.2 = 3 := by
  unfold wire_Decode
  rw [decide_eq_true (show (u.size : Int) > 0 by omega), cond_true, show (bat u 0 != 83) = true by simpa using h, cond_true]
theorem Par.noise {x : ByteArray} (h : ∀ i, i < x.size → bat x i ≠ 83) : Par x x.size [] := by
  refine ⟨fun t m out lost hl => ?_, Nat.le_refl _⟩
  have key : ∀ j, j ≤ x.size → wire_Scan_L1 (j + m) ((x ++ t).extract (x.size - j) (x ++ t).size) out ((lost + (x.size - j) : Nat) : Int) = wire_Scan_L1 m t out ((lost + x.size : Nat) : Int) := by
    intro j
    induction j with
    | zero => intro _; rw [Nat.zero_add, Nat.sub_zero, ext_tail]
    | succ j ih =>
      intro hj
      have hz : (x ++ t).size = x.size + t.size := ByteArray.size_append
      have hu : 0 < ((x ++ t).extract (x.size - (j + 1)) (x ++ t).size).size := by rw [ByteArray.size_extract]; omega
      have hb : bat ((x ++ t).extract (x.size - (j + 1)) (x ++ t).size) 0 ≠ 83 := by
        rw [bat_extract _ _ _ 0 (by omega) (Nat.le_refl _), Nat.add_zero, bat_append_left (by omega)]
        exact h _ (by omega)
      rw [show j + 1 + m = (j + m) + 1 by omega]
      conv => lhs; unfold wire_Scan_L1
      simp only
      rw [dec_noise hu hb, show ((3 : Int) == 0) = false from rfl, cond_false, show ((3 : Int) == 8) = false from rfl, cond_false, ext_one, w64_id (by omega), ← ih (by omega),
        show x.size - (j + 1) + 1 = x.size - j by omega, show ((lost + (x.size - (j + 1)) : Nat) : Int) + 1 = ((lost + (x.size - j) : Nat) : Int) by omega]
  have := key x.size (Nat.le_refl _)
  rw [Nat.sub_self, Nat.add_zero] at this
  have e : (x ++ t).extract 0 (x ++ t).size = x ++ t := by
    have := ext_tail ⟨#[]⟩ (x ++ t)
    have e0 : (⟨#[]⟩ : ByteArray) ++ (x ++ t) = x ++ t := by
      apply ByteArray.ext
      rw [ByteArray.data_append]
      exact Array.empty_append
    rw [e0] at this
    exact this
  rw [e] at this
  rw [List.append_nil]
  show wire_Scan_L1 (x.size + 0 + m) _ _ _ = _
  rw [Nat.add_zero]
  exact this
end Go.Sky
