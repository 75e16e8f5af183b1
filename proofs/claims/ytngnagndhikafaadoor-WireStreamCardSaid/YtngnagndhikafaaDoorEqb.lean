/- The equality of structures, field by field. Conditions: none. -/
import Derived.Test.YtngnagndhikafaaDoorEq
namespace Go.Sky
open Go.Eng
def P.eqb (a b : P) : Bool := ((a.X == b.X) && ((a.Y == b.Y) && true))
theorem P.eqb_eq (a b : P) : P.eqb a b = decide (a = b) := by
  rw [Bool.eq_iff_iff, decide_eq_true_iff]
  cases a; cases b
  simp [P.eqb]
def Plot.eqb (a b : Plot) : Bool := ((a.Radar == b.Radar) && ((a.Time == b.Time) && ((a.Range == b.Range) && ((a.Azimuth == b.Azimuth) && ((a.Height == b.Height) && ((a.Code == b.Code) && true))))))
theorem Plot.eqb_eq (a b : Plot) : Plot.eqb a b = decide (a = b) := by
  rw [Bool.eq_iff_iff, decide_eq_true_iff]
  cases a; cases b
  simp [Plot.eqb]
def BiasOffset.eqb (a b : BiasOffset) : Bool := ((a.Range == b.Range) && ((a.Azimuth == b.Azimuth) && ((a.Time == b.Time) && true)))
theorem BiasOffset.eqb_eq (a b : BiasOffset) : BiasOffset.eqb a b = decide (a = b) := by
  rw [Bool.eq_iff_iff, decide_eq_true_iff]
  cases a; cases b
  simp [BiasOffset.eqb]
def RadarSite.eqb (a b : RadarSite) : Bool := ((a.ID == b.ID) && (P.eqb a.At b.At && ((a.Reach == b.Reach) && ((a.RangeError == b.RangeError) && ((a.AzimuthError == b.AzimuthError) && true)))))
theorem RadarSite.eqb_eq (a b : RadarSite) : RadarSite.eqb a b = decide (a = b) := by
  rw [Bool.eq_iff_iff, decide_eq_true_iff]
  cases a; cases b
  simp [RadarSite.eqb, P.eqb_eq]
def Track.eqb (a b : Track) : Bool := ((a.ID == b.ID) && ((a.State == b.State) && ((a.Time == b.Time) && (P.eqb a.At b.At && (P.eqb a.Speed b.Speed && ((a.Height == b.Height) && ((a.Rate == b.Rate) && ((a.Radius == b.Radius) && ((a.Code == b.Code) && ((a.Hits == b.Hits) && ((a.Misses == b.Misses) && true)))))))))))
theorem Track.eqb_eq (a b : Track) : Track.eqb a b = decide (a = b) := by
  rw [Bool.eq_iff_iff, decide_eq_true_iff]
  cases a; cases b
  simp [Track.eqb, P.eqb_eq]
def Spot.eqb (a b : Spot) : Bool := ((a.Time == b.Time) && (P.eqb a.At b.At && ((a.Height == b.Height) && ((a.Code == b.Code) && ((a.Error == b.Error) && true)))))
theorem Spot.eqb_eq (a b : Spot) : Spot.eqb a b = decide (a = b) := by
  rw [Bool.eq_iff_iff, decide_eq_true_iff]
  cases a; cases b
  simp [Spot.eqb, P.eqb_eq]
def FilterTrack.eqb (a b : FilterTrack) : Bool := (Track.eqb a.Track b.Track && ((a.Slack == b.Slack) && (Spot.eqb a.Last b.Last && true)))
theorem FilterTrack.eqb_eq (a b : FilterTrack) : FilterTrack.eqb a b = decide (a = b) := by
  rw [Bool.eq_iff_iff, decide_eq_true_iff]
  cases a; cases b
  simp [FilterTrack.eqb, Spot.eqb_eq, Track.eqb_eq]
def BeginState.eqb (a b : BeginState) : Bool := ((a.Hits == b.Hits) && ((a.Scans == b.Scans) && true))
theorem BeginState.eqb_eq (a b : BeginState) : BeginState.eqb a b = decide (a = b) := by
  rw [Bool.eq_iff_iff, decide_eq_true_iff]
  cases a; cases b
  simp [BeginState.eqb]
def ClimbReport.eqb (a b : ClimbReport) : Bool := ((a.Time == b.Time) && ((a.Level == b.Level) && true))
theorem ClimbReport.eqb_eq (a b : ClimbReport) : ClimbReport.eqb a b = decide (a = b) := by
  rw [Bool.eq_iff_iff, decide_eq_true_iff]
  cases a; cases b
  simp [ClimbReport.eqb]
def Sep.eqb (a b : Sep) : Bool := ((a.Lateral == b.Lateral) && ((a.Vertical == b.Vertical) && true))
theorem Sep.eqb_eq (a b : Sep) : Sep.eqb a b = decide (a = b) := by
  rw [Bool.eq_iff_iff, decide_eq_true_iff]
  cases a; cases b
  simp [Sep.eqb]
def AlertPair.eqb (a b : AlertPair) : Bool := ((a.A == b.A) && ((a.B == b.B) && ((a.Seconds == b.Seconds) && true)))
theorem AlertPair.eqb_eq (a b : AlertPair) : AlertPair.eqb a b = decide (a = b) := by
  rw [Bool.eq_iff_iff, decide_eq_true_iff]
  cases a; cases b
  simp [AlertPair.eqb]
def Span.eqb (a b : Span) : Bool := ((a.From == b.From) && ((a.To == b.To) && true))
theorem Span.eqb_eq (a b : Span) : Span.eqb a b = decide (a = b) := by
  rw [Bool.eq_iff_iff, decide_eq_true_iff]
  cases a; cases b
  simp [Span.eqb]
def Node.eqb (a b : Node) : Bool := ((a.Time == b.Time) && (P.eqb a.At b.At && ((a.Height == b.Height) && true)))
theorem Node.eqb_eq (a b : Node) : Node.eqb a b = decide (a = b) := by
  rw [Bool.eq_iff_iff, decide_eq_true_iff]
  cases a; cases b
  simp [Node.eqb, P.eqb_eq]
def TubeNode.eqb (a b : TubeNode) : Bool := (Node.eqb a.Node b.Node && ((a.Radius == b.Radius) && ((a.Band == b.Band) && true)))
theorem TubeNode.eqb_eq (a b : TubeNode) : TubeNode.eqb a b = decide (a = b) := by
  rw [Bool.eq_iff_iff, decide_eq_true_iff]
  cases a; cases b
  simp [TubeNode.eqb, Node.eqb_eq]
def TrackerRules.eqb (a b : TrackerRules) : Bool := ((a.Need == b.Need) && ((a.Of == b.Of) && ((a.Misses == b.Misses) && ((a.Accel == b.Accel) && ((a.Place == b.Place) && ((a.Speed == b.Speed) && true))))))
theorem TrackerRules.eqb_eq (a b : TrackerRules) : TrackerRules.eqb a b = decide (a = b) := by
  rw [Bool.eq_iff_iff, decide_eq_true_iff]
  cases a; cases b
  simp [TrackerRules.eqb]
def followed.eqb (a b : followed) : Bool := (FilterTrack.eqb a.f b.f && (BeginState.eqb a.history b.history && ((a.hit == b.hit) && true)))
theorem followed.eqb_eq (a b : followed) : followed.eqb a b = decide (a = b) := by
  rw [Bool.eq_iff_iff, decide_eq_true_iff]
  cases a; cases b
  simp [followed.eqb, BeginState.eqb_eq, FilterTrack.eqb_eq]
end Go.Sky
