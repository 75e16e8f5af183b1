/- The tracker, as the program computes with it. Conditions: none. -/
import Derived.Test.YtehhgjhileappaaThick
namespace Go.Sky
open Go
structure Tracker where
  (rules : TrackerRules)
  (all : List followed)
  (next last : Int)
deriving DecidableEq
def Tracker.zero : Tracker := ⟨TrackerRules.zero, [], 0, 0⟩
def Tracker.k (t : Tracker) (A : Option Addr) (c : Nat) : Array Value := #[.int .i64 t.rules.Need, .int .i64 t.rules.Of, .int .i64 t.rules.Misses, .int .i64 t.rules.Accel, .int .i64 t.rules.Place, .int .i64 t.rules.Speed, .slice A t.all.length c, .int .i64 t.next, .int .i64 t.last]
end Go.Sky
