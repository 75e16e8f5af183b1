/- Strings: parts, sums, equality, bytes of a row as a string. Conditions: in each theorem. -/
import Derived.Test.YtngnagndhikafaaDoorFct
import Derived.Laws.BytesString
import Derived.Laws.Cells
namespace Go.Eng
open Go.RowKit (Below)

def ic8 (x : Int) : Array Value := #[.int .u8 x]
theorem ic8_one (x : Int) : (ic8 x).toList.all Value.oneCell' = true := rfl

/-- Equality of strings, as the model asks it. -/
def seq (x y : ByteArray) : Bool := x.toList == y.toList
/-- A row of bytes as a string. -/
def strOf (l : List Int) : ByteArray := l.foldl (fun r n => r.push (UInt8.ofNat n.toNat)) ByteArray.empty

theorem data_fold : ∀ (l : List Int) (b : ByteArray), (l.foldl (fun r n => r.push (UInt8.ofNat n.toNat)) b).data.toList = b.data.toList ++ l.map (fun n => UInt8.ofNat n.toNat)
  | [], b => by simp
  | x :: l, b => by
    rw [List.foldl_cons, data_fold l]
    simp [ByteArray.push]
theorem data_strOf (l : List Int) : (strOf l).data.toList = l.map (fun n => UInt8.ofNat n.toNat) := by
  unfold strOf; rw [data_fold]; rfl
theorem size_strOf (l : List Int) : (strOf l).size = l.length := by
  have := congrArg List.length (data_strOf l)
  rw [List.length_map, Array.length_toList] at this
  exact this

theorem run_str_slice {P : Program} {w : World} {t : TypeId} {s : ByteArray} {lo hi : Option Value} (l h : Nat) (ht : P.underlying t = some .string)
    (hlo : lo = none ∧ l = 0 ∨ ∃ k i, lo = some (.int k i) ∧ 0 ≤ i ∧ i.toNat = l) (hhi : hi = none ∧ h = s.size ∨ ∃ k i, hi = some (.int k i) ∧ 0 ≤ i ∧ i.toNat = h) (h1 : l ≤ h) (h2 : h ≤ s.size) :
    (sV (Instr.sliceAt t (.string s) lo hi none)).run P w = .ok (.value (.string (s.extract l h))) w := by
  refine run_sV ?_
  have hu := run_underlying (P := P) (w := w) ht
  rcases hlo with ⟨rfl, rfl⟩ | ⟨k, i, rfl, hi0, rfl⟩ <;> rcases hhi with ⟨rfl, rfl⟩ | ⟨k', i', rfl, hi0', rfl⟩
  · simp [Instr.sliceAt, Instr.slice, Instr.sliceBounds, hu]
  · have : i' ≤ s.size := by omega
    simp [Instr.sliceAt, Instr.slice, Instr.sliceBounds, Instr.sliceBound, asIntOf, hu, hi0', this]
  · have : i ≤ s.size := by omega
    simp [Instr.sliceAt, Instr.slice, Instr.sliceBounds, Instr.sliceBound, asIntOf, hu, hi0, this]
  · have h3 : i' ≤ s.size := by omega
    have h4 : i ≤ i'.toNat := by omega
    simp [Instr.sliceAt, Instr.slice, Instr.sliceBounds, Instr.sliceBound, asIntOf, hu, hi0, hi0', h3]
    omega

theorem run_str_add {P : Program} {w : World} {t : TypeId} {x y : ByteArray} (h : x.size + y.size ≤ 9223372036854775807) :
    (sV (binOp .add t (.string x) (.string y))).run P w = .ok (.value (.string (x ++ y))) w := by
  refine run_sV ?_
  have h2 : ¬ ((x.size + y.size : Nat) : Int) > IntKind.i64.max := by
    have : IntKind.i64.max = 9223372036854775807 := rfl
    omega
  simp only [binOp, Op.stringOp]
  rw [if_neg h2]
  rfl

theorem run_bytes_str {P : Program} {w : World} {src dst e : TypeId} {A : Option Addr} {l : List Int} {n c : Nat} (hs : P.underlying src = some (.slice e)) (he : P.underlying e = some (.int .u8)) (hd : P.underlying dst = some .string)
    (hR : Rd w 1 A (l.map ic8)) (hn : n = l.length) : (sV (convert src dst (.slice A n c))).run P w = .ok (.value (.string (strOf l))) w := by
  subst hn
  refine run_sV ?_
  rw [run_convert_bytes_string w src dst e A l.length c hs he hd]
  cases A with
  | none =>
    have : l = [] := nil_of_none hR
    subst this; rfl
  | some a =>
    refine run_bytesToString w a l.length c l ?_
    have := run_loadCells_list (P := P) (w := w) a (l.map (Value.int .u8)) (fun j v hj => by
      rw [List.getElem?_map] at hj
      cases hx : l[j]? with
      | none => rw [hx] at hj; cases hj
      | some x =>
        rw [hx] at hj
        simp only [Option.map_some, Option.some.injEq] at hj
        subst hj
        obtain ⟨_, ad, h2, _, h4⟩ := hR.row j (ic8 x) (by rw [List.getElem?_map, hx]; rfl)
        simp only [Option.some.injEq] at h2; subst h2
        have := h4 0 (.int .u8 x) rfl
        rwa [Nat.mul_one, Nat.add_zero] at this)
    simpa using this
end Go.Eng
