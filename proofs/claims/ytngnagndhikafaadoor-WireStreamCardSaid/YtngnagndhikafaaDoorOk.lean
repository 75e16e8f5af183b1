/- The ranges that the fields of a read structure have. Conditions: none. -/
import Derived.Test.YtngnagndhikafaaDoorGlue
namespace Go.Sky
open Go.Glue
def P.ok (x : P) : Prop := I64 x.X ∧ I64 x.Y
def Plot.ok (x : Plot) : Prop := I64 x.Radar ∧ I64 x.Time ∧ I64 x.Range ∧ I64 x.Azimuth ∧ I64 x.Height ∧ I64 x.Code
def BiasOffset.ok (x : BiasOffset) : Prop := I64 x.Range ∧ I64 x.Azimuth ∧ I64 x.Time
def RadarSite.ok (x : RadarSite) : Prop := I64 x.ID ∧ x.At.ok ∧ I64 x.Reach ∧ I64 x.RangeError ∧ I64 x.AzimuthError
def Track.ok (x : Track) : Prop := I64 x.ID ∧ I64 x.State ∧ I64 x.Time ∧ x.At.ok ∧ x.Speed.ok ∧ I64 x.Height ∧ I64 x.Rate ∧ I64 x.Radius ∧ I64 x.Code ∧ I64 x.Hits ∧ I64 x.Misses
def Spot.ok (x : Spot) : Prop := I64 x.Time ∧ x.At.ok ∧ I64 x.Height ∧ I64 x.Code ∧ I64 x.Error
def FilterTrack.ok (x : FilterTrack) : Prop := x.Track.ok ∧ I64 x.Slack ∧ x.Last.ok
def BeginState.ok (x : BeginState) : Prop := I64 x.Hits ∧ I64 x.Scans
def ClimbReport.ok (x : ClimbReport) : Prop := I64 x.Time ∧ I64 x.Level
def Sep.ok (x : Sep) : Prop := I64 x.Lateral ∧ I64 x.Vertical
def AlertPair.ok (x : AlertPair) : Prop := I64 x.A ∧ I64 x.B ∧ I64 x.Seconds
def Span.ok (x : Span) : Prop := I64 x.From ∧ I64 x.To
def Node.ok (x : Node) : Prop := I64 x.Time ∧ x.At.ok ∧ I64 x.Height
def TubeNode.ok (x : TubeNode) : Prop := x.Node.ok ∧ I64 x.Radius ∧ I64 x.Band
def TrackerRules.ok (x : TrackerRules) : Prop := I64 x.Need ∧ I64 x.Of ∧ I64 x.Misses ∧ I64 x.Accel ∧ I64 x.Place ∧ I64 x.Speed
def followed.ok (x : followed) : Prop := x.f.ok ∧ x.history.ok
end Go.Sky
