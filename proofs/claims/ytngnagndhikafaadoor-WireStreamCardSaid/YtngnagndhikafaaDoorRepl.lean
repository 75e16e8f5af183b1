/- strings.ReplaceAll, from the library's contract; what it leaves where one letter is taken out. Conditions: in each theorem. -/
import Derived.Test.YtngnagndhikafaaDoorLaysRep
import Derived.Test.YtngnagndhikafaaDoorFct
import Derived.Shelf.Strings.Replace
namespace Go.Proofs
open Go.Shelf
theorem Tryd.builderExtra : Builder.Extra Tryd.prog Tryd.laysRep_ren := { sizeBuilder := by kernel_rfl, liesBuilder := by kernel_rfl, t5 := Tryd.laysRep.t5, a5 := Tryd.laysRep.a5, z5 := Tryd.laysRep.z5, v5 := Tryd.laysRep.v5, infoByte := by kernel_rfl, cellsByte := by kernel_rfl, sizeByte := by kernel_rfl, neB5 := Nat.ne_of_beq_eq_false (by kernel_rfl) }
end Go.Proofs
namespace Go.Sky
open Go Go.Eng Go.Proofs

/-- A variable of the library's holds some number. -/
def Mlen (w : World) : Prop := ∃ m, w.cell? ⟨Tryd.laysRep_ren.g 1, 0, none⟩ = some (.int .i64 m)
theorem Mlen.of {w : World} (h : w.ShapedOpen Tryd.prog) : Mlen w := Tryd.laysRep.s1_3 w h
theorem Mlen.sat {w0 w : World} {D : Nat → Prop} {M : Mem} (h : Mlen w0) (hM : Sat ⟨w0, D⟩ M w) (hD : ¬ D (Tryd.laysRep_ren.g 1) := by first | exact (fun h => h) | exact feet_no) : Mlen w := by
  obtain ⟨m, hm⟩ := h
  refine ⟨m, ?_⟩
  unfold World.cell? at hm ⊢
  have hlt : Tryd.laysRep_ren.g 1 < w0.heap.size := by
    rcases Nat.lt_or_ge (Tryd.laysRep_ren.g 1) w0.heap.size with h | h
    · exact h
    · rw [Array.getElem?_eq_none h] at hm
      cases hm
  rw [hM.chg.block _ hlt hD]
  exact hm

def strings_ReplaceAll (s old new : ByteArray) : ByteArray := ⟨(Lib.replaceAll s.data.toList old.data.toList new.data.toList).toArray⟩
theorem strings_ReplaceAll_w (s old new : ByteArray) (w : World) (hm : Mlen w) (hs : s.size < 4294967281) (h1 : 1 ≤ old.size) (h2 : new.size = 0) : Calls Tryd.prog 5 #[.string s, .string old, .string new] w (Ret w (.string (strings_ReplaceAll s old new))) := by
  obtain ⟨m, hm⟩ := hm
  have L := Tryd.laysRep
  have c := Any.strings_ReplaceAll { L with } Tryd.builderExtra s old new m w hs hm h1 (by rw [h2]; omega)
  rw [show Tryd.laysRep_ren.f 155 = 5 by kernel_rfl] at c
  refine c.mono ?_
  rintro e w' ⟨he, hb⟩
  exact ⟨he, hb.os, hb.tape, hb.output, hb.size, hb.block, Nat.le_refl _⟩

/-! One letter taken out. -/
theorem index_one (c : UInt8) : ∀ s : List UInt8, (Lib.index s [c] = -1 ∧ c ∉ s) ∨ ∃ i : Nat, Lib.index s [c] = (i : Int) ∧ i < s.length ∧ c ∉ s.take i
  | [] => .inl ⟨rfl, by simp⟩
  | b :: l => by
    unfold Lib.index
    rcases Decidable.em (c = b) with e | e
    · exact .inr ⟨0, by simp [e], by simp, by simp⟩
    · have h0 : ([c] : List UInt8).isPrefixOf (b :: l) = false := by rw [List.isPrefixOf]; simp [e]
      rw [h0, if_neg (by decide)]
      rcases index_one c l with ⟨h, hn⟩ | ⟨i, h, hi, hn⟩
      · exact .inl ⟨by rw [h]; rfl, by simp [e, hn]⟩
      · refine .inr ⟨i + 1, ?_, by simp only [List.length_cons]; omega, by simp [e, hn]⟩
        rw [h, if_neg (by rw [beq_iff_eq]; omega)]
        rfl
theorem replace_one (c : UInt8) : ∀ (f : Nat) (s : List UInt8), s.length < f → c ∉ Lib.replaceK [c] [] (Lib.countFrom [c] f s) s ∧ (Lib.replaceK [c] [] (Lib.countFrom [c] f s) s).length ≤ s.length
  | 0, _, h => absurd h (Nat.not_lt_zero _)
  | f + 1, s, hf => by
    unfold Lib.countFrom
    rcases index_one c s with ⟨h, hn⟩ | ⟨i, h, hi, hn⟩
    · rw [if_pos (by rw [h]; rfl)]
      exact ⟨hn, Nat.le_refl _⟩
    · rw [if_neg (by rw [h, beq_iff_eq]; omega), Nat.add_comm 1, Lib.replaceK_hit _ _ _ _ i h, h]
      obtain ⟨h3, h4⟩ := replace_one c f (s.drop (i + 1)) (by rw [List.length_drop]; omega)
      rw [List.length_drop] at h4
      simp only [Int.toNat_natCast, List.length_cons, List.length_nil, Nat.zero_add, List.append_nil, List.mem_append, List.length_append, List.length_take]
      refine ⟨fun hm => hm.elim hn h3, ?_⟩
      omega
theorem replaceAll_one (c : UInt8) (s : List UInt8) : c ∉ Lib.replaceAll s [c] [] ∧ (Lib.replaceAll s [c] []).length ≤ s.length := by
  unfold Lib.replaceAll Lib.replace Lib.replaceNum Lib.count
  rw [if_neg (by simp), if_pos (.inl (by decide))]
  exact replace_one c _ s (Nat.lt_succ_self _)
theorem rep_size (s : ByteArray) : (strings_ReplaceAll s ⟨#[83]⟩ ⟨#[]⟩).size ≤ s.size := by
  have := (replaceAll_one 83 s.data.toList).2
  show ((Lib.replaceAll s.data.toList [83] []).toArray).size ≤ s.data.size
  simpa using this
theorem rep_no (s : ByteArray) (i : Nat) (hi : i < (strings_ReplaceAll s ⟨#[83]⟩ ⟨#[]⟩).size) : bat (strings_ReplaceAll s ⟨#[83]⟩ ⟨#[]⟩) i ≠ 83 := by
  intro h
  have hn := (replaceAll_one 83 s.data.toList).1
  have hi' : i < (Lib.replaceAll s.data.toList [83] []).length := by
    have h1 : i < ((Lib.replaceAll s.data.toList [83] []).toArray).size := hi
    rwa [List.size_toArray] at h1
  unfold bat at h
  have e : (strings_ReplaceAll s ⟨#[83]⟩ ⟨#[]⟩).data[i]? = some ((Lib.replaceAll s.data.toList [83] [])[i]) := by
    show ((Lib.replaceAll s.data.toList [83] []).toArray)[i]? = _
    simp [hi']
  rw [e] at h
  have h3 : (Lib.replaceAll s.data.toList [83] [])[i] = 83 := UInt8.toNat_inj.1 (by simpa using (by exact_mod_cast h : ((Lib.replaceAll s.data.toList [83] [])[i]).toNat = 83))
  have h4 := List.getElem_mem hi'
  rw [h3] at h4
  exact hn h4
end Go.Sky
