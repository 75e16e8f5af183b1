/- Bytes of a string, and unsigned words. Conditions: in each theorem. -/
import Derived.Test.YtakjcphknccdnaaDoorPlan
namespace Go.Eng
open Go.RowKit (Below)

/-- Byte i of a string, as a number. -/
def bat (s : ByteArray) (i : Nat) : Int := ((s.data[i]?.getD 0).toNat : Int)
theorem bat_in (s : ByteArray) (i : Nat) : 0 ≤ bat s i ∧ bat s i ≤ 255 := by
  unfold bat
  have := (s.data[i]?.getD 0).toNat_lt
  omega
theorem run_str_index {P : Program} {w : World} {t : TypeId} {k : IntKind} {i : Int} {s : ByteArray} (ht : P.underlying t = some .string) (h0 : 0 ≤ i) (h1 : i < (s.size : Int)) :
    (sV (Instr.index t (.string s) (.int k i))).run P w = .ok (.value (.int .u8 (bat s i.toNat))) w := by
  refine run_sV ?_
  have hu := run_underlying (P := P) (w := w) ht
  have hlt : i.toNat < s.size := by omega
  have hg : s[i.toNat]? = some s.data[i.toNat] := by
    rw [getElem?_pos s i.toNat hlt]; rfl
  have hb : bat s i.toNat = ((s.data[i.toNat]'hlt).toNat : Int) := by
    unfold bat
    rw [Array.getElem?_eq_getElem hlt]; rfl
  simp [Instr.index, asIntOf, hu, h0, hg, hb]

theorem wu64_nn (x : Int) : 0 ≤ wu64 x := by
  show 0 ≤ IntKind.u64.wrap x
  simp only [IntKind.wrap_u64]; omega
theorem wu64_eq (x : Int) : wu64 x = x % 18446744073709551616 := IntKind.wrap_u64 x
theorem wu64_id {x : Int} (h : 0 ≤ x ∧ x ≤ 18446744073709551615) : wu64 x = x := by rw [wu64_eq]; omega
theorem wu8_eq (x : Int) : wu8 x = x % 256 := IntKind.wrap_u8 x
theorem wu8_in (x : Int) : 0 ≤ wu8 x ∧ wu8 x ≤ 255 := by rw [wu8_eq]; omega
end Go.Eng
