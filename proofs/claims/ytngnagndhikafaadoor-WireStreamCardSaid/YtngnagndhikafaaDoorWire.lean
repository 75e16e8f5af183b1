/- Numbers as bytes, the highest first. Conditions: in each theorem. -/
import Derived.Test.YtngnagndhikafaaDoorFltB
namespace Go.Sky
open Go Go.Eng

/-- The lowest m bytes of n, the highest first. -/
def be (n : Int) : Nat → List Int
  | 0 => []
  | m + 1 => wu8 (n.fdiv (2 ^ (min (8 * m) 64))) :: be n m
theorem be_length (n : Int) : ∀ m, (be n m).length = m
  | 0 => rfl
  | m + 1 => by rw [be, List.length_cons, be_length n m]
theorem be_step {b c : List Int} {n i : Int} {l : List Int} (h : b ++ be n (i + 1).toNat = c ++ l) (hi : 0 ≤ i) :
    (b ++ [wu8 (n.fdiv (2 ^ (min (8 * i).toNat 64)))]) ++ be n (i - 1 + 1).toNat = c ++ l := by
  rw [show (i + 1).toNat = i.toNat + 1 by omega, be] at h
  rw [show (i - 1 + 1).toNat = i.toNat by omega, show (8 * i).toNat = 8 * i.toNat by omega, List.append_assoc, ← h]
  rfl
theorem be_end {b c : List Int} {n i : Int} {l : List Int} (h : b ++ be n (i + 1).toNat = c ++ l) (hi : i < 0) : b = c ++ l := by
  rw [show (i + 1).toNat = 0 by omega, be, List.append_nil] at h; exact h
theorem be_len {b c : List Int} {n i : Int} {m : Nat} (h : b ++ be n (i + 1).toNat = c ++ be n m) : b.length + (i + 1).toNat = c.length + m := by
  have := congrArg List.length h
  rwa [List.length_append, List.length_append, be_length, be_length] at this
theorem ext_size {s : ByteArray} {N : Nat} (a b : Nat) (h : s.size ≤ N) : (s.extract a b).size ≤ N := by rw [ByteArray.size_extract]; omega
theorem put_len {x r : List Int} {n : Int} {k : Nat} (h : x ++ be n k = r) : r.length = x.length + k := by
  rw [← h, List.length_append, be_length]
end Go.Sky
