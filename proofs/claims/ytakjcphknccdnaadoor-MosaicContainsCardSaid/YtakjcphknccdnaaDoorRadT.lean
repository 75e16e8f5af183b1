/- The table of the directions: lengths and chords. Conditions: none. -/
import Derived.Test.YtakjcphknccdnaaDoorDir
namespace Go.Sky
open Go Go.Eng

def lenB (k : Nat) : Bool := decide (268412285 ≤ sn k * sn k + cs k * cs k) && decide (sn k * sn k + cs k * cs k ≤ 268458627) &&
  decide ((sn k - sn (k + 1)) * (sn k - sn (k + 1)) + (cs k - cs (k + 1)) * (cs k - cs (k + 1)) ≤ 729)
def chordB (k j : Nat) : Bool := decide (423801 * ((sn k - sn (k + j)) * (sn k - sn (k + j)) + (cs k - cs (k + j)) * (cs k - cs (k + j))) ≤ (16384 * ((j : Int) + 1) - 10416) * (16384 * ((j : Int) + 1) - 10416))
def allB (f : Nat → Bool) (a : Nat) : Nat → Bool
  | 0 => true
  | n + 1 => f a && allB f (a + 1) n
theorem allB_succ (f : Nat → Bool) (a n : Nat) : allB f a (n + 1) = (f a && allB f (a + 1) n) := rfl
theorem allB_at (f : Nat → Bool) (n : Nat) : ∀ a, allB f a n = true → ∀ k, a ≤ k → k < a + n → f k = true := by
  induction n with
  | zero => intro a _ k h1 h2; omega
  | succ n ih =>
    intro a h k h1 h2
    rw [allB_succ, Bool.and_eq_true] at h
    by_cases he : a = k
    · rw [← he]; exact h.1
    · exact ih (a + 1) h.2 k (by omega) (by omega)
set_option maxRecDepth 100000
theorem len_ok : allB lenB 0 1024 = true := by kernel_rfl
theorem chord_a : allB (fun k => allB (chordB k) 0 100) 0 256 = true := by kernel_rfl
theorem chord_b : allB (fun k => allB (chordB k) 0 100) 256 256 = true := by kernel_rfl
theorem chord_c : allB (fun k => allB (chordB k) 0 100) 512 256 = true := by kernel_rfl
theorem chord_d : allB (fun k => allB (chordB k) 0 100) 768 256 = true := by kernel_rfl
end Go.Sky
