/- The program's plain structs as Lean structures, and the arithmetic words of the walks. Conditions: none. -/
import Derived.Test.YtngnagndhikafaaDoorOrder
namespace Go.Eng
def wu64 (x : Int) : Int := IntKind.u64.wrap x
def wu32 (x : Int) : Int := IntKind.u32.wrap x
def wu8 (x : Int) : Int := IntKind.u8.wrap x
def wi32 (x : Int) : Int := IntKind.i32.wrap x
def imin (x y : Int) : Int := if y < x then y else x
def imax (x y : Int) : Int := if y > x then y else x
def kand (k : IntKind) (x y : Int) : Int := k.wrap (BitVec.ofInt k.bits x &&& BitVec.ofInt k.bits y).toNat
def kor (k : IntKind) (x y : Int) : Int := k.wrap (BitVec.ofInt k.bits x ||| BitVec.ofInt k.bits y).toNat
def kxor (k : IntKind) (x y : Int) : Int := k.wrap (BitVec.ofInt k.bits x ^^^ BitVec.ofInt k.bits y).toNat
def kandnot (k : IntKind) (x y : Int) : Int := k.wrap (BitVec.ofInt k.bits x &&& ~~~BitVec.ofInt k.bits y).toNat
theorem cond_t {α : Type} {c : Bool} {x y r : α} (h : c = true) (hx : x = r) : cond c x y = r := by subst h; exact hx
theorem cond_f {α : Type} {c : Bool} {x y r : α} (h : c = false) (hy : y = r) : cond c x y = r := by subst h; exact hy
theorem elim_l {α β γ : Type} {f : α → γ} {g : β → γ} {x : α ⊕ β} {s : α} {r : γ} (h : x = .inl s) (hx : f s = r) : Sum.elim f g x = r := by subst h; exact hx
theorem elim_r {α β γ : Type} {f : α → γ} {g : β → γ} {x : α ⊕ β} {s : β} {r : γ} (h : x = .inr s) (hx : g s = r) : Sum.elim f g x = r := by subst h; exact hx
end Go.Eng
namespace Go.Sky
structure P where
  (X Y : Int)
deriving DecidableEq
def P.c (x : P) : Array Value := #[.int .i64 x.X, .int .i64 x.Y]
def P.v (x : P) : Value := .agg #[.int .i64 x.X, .int .i64 x.Y]
def P.zero : P := ⟨0, 0⟩
theorem P.one (x : P) : x.c.toList.all Value.oneCell' = true := rfl
structure Plot where
  (Radar Time Range Azimuth Height Code : Int)
deriving DecidableEq
def Plot.c (x : Plot) : Array Value := #[.int .i64 x.Radar, .int .i64 x.Time, .int .i64 x.Range, .int .i64 x.Azimuth, .int .i64 x.Height, .int .i64 x.Code]
def Plot.v (x : Plot) : Value := .agg #[.int .i64 x.Radar, .int .i64 x.Time, .int .i64 x.Range, .int .i64 x.Azimuth, .int .i64 x.Height, .int .i64 x.Code]
def Plot.zero : Plot := ⟨0, 0, 0, 0, 0, 0⟩
theorem Plot.one (x : Plot) : x.c.toList.all Value.oneCell' = true := rfl
structure BiasOffset where
  (Range Azimuth Time : Int)
deriving DecidableEq
def BiasOffset.c (x : BiasOffset) : Array Value := #[.int .i64 x.Range, .int .i64 x.Azimuth, .int .i64 x.Time]
def BiasOffset.v (x : BiasOffset) : Value := .agg #[.int .i64 x.Range, .int .i64 x.Azimuth, .int .i64 x.Time]
def BiasOffset.zero : BiasOffset := ⟨0, 0, 0⟩
theorem BiasOffset.one (x : BiasOffset) : x.c.toList.all Value.oneCell' = true := rfl
structure RadarSite where
  (ID : Int)
  (At : P)
  (Reach RangeError AzimuthError : Int)
deriving DecidableEq
def RadarSite.c (x : RadarSite) : Array Value := #[.int .i64 x.ID, .int .i64 x.At.X, .int .i64 x.At.Y, .int .i64 x.Reach, .int .i64 x.RangeError, .int .i64 x.AzimuthError]
def RadarSite.v (x : RadarSite) : Value := .agg #[.int .i64 x.ID, .int .i64 x.At.X, .int .i64 x.At.Y, .int .i64 x.Reach, .int .i64 x.RangeError, .int .i64 x.AzimuthError]
def RadarSite.zero : RadarSite := ⟨0, ⟨0, 0⟩, 0, 0, 0⟩
theorem RadarSite.one (x : RadarSite) : x.c.toList.all Value.oneCell' = true := rfl
structure Track where
  (ID State Time : Int)
  (At Speed : P)
  (Height Rate Radius Code Hits Misses : Int)
deriving DecidableEq
def Track.c (x : Track) : Array Value := #[.int .i64 x.ID, .int .i64 x.State, .int .i64 x.Time, .int .i64 x.At.X, .int .i64 x.At.Y, .int .i64 x.Speed.X, .int .i64 x.Speed.Y, .int .i64 x.Height, .int .i64 x.Rate, .int .i64 x.Radius, .int .i64 x.Code, .int .i64 x.Hits, .int .i64 x.Misses]
def Track.v (x : Track) : Value := .agg #[.int .i64 x.ID, .int .i64 x.State, .int .i64 x.Time, .int .i64 x.At.X, .int .i64 x.At.Y, .int .i64 x.Speed.X, .int .i64 x.Speed.Y, .int .i64 x.Height, .int .i64 x.Rate, .int .i64 x.Radius, .int .i64 x.Code, .int .i64 x.Hits, .int .i64 x.Misses]
def Track.zero : Track := ⟨0, 0, 0, ⟨0, 0⟩, ⟨0, 0⟩, 0, 0, 0, 0, 0, 0⟩
theorem Track.one (x : Track) : x.c.toList.all Value.oneCell' = true := rfl
structure Spot where
  (Time : Int)
  (At : P)
  (Height Code Error : Int)
deriving DecidableEq
def Spot.c (x : Spot) : Array Value := #[.int .i64 x.Time, .int .i64 x.At.X, .int .i64 x.At.Y, .int .i64 x.Height, .int .i64 x.Code, .int .i64 x.Error]
def Spot.v (x : Spot) : Value := .agg #[.int .i64 x.Time, .int .i64 x.At.X, .int .i64 x.At.Y, .int .i64 x.Height, .int .i64 x.Code, .int .i64 x.Error]
def Spot.zero : Spot := ⟨0, ⟨0, 0⟩, 0, 0, 0⟩
theorem Spot.one (x : Spot) : x.c.toList.all Value.oneCell' = true := rfl
structure FilterTrack where
  (Track : Track)
  (Slack : Int)
  (Last : Spot)
deriving DecidableEq
def FilterTrack.c (x : FilterTrack) : Array Value := #[.int .i64 x.Track.ID, .int .i64 x.Track.State, .int .i64 x.Track.Time, .int .i64 x.Track.At.X, .int .i64 x.Track.At.Y, .int .i64 x.Track.Speed.X, .int .i64 x.Track.Speed.Y, .int .i64 x.Track.Height, .int .i64 x.Track.Rate, .int .i64 x.Track.Radius, .int .i64 x.Track.Code, .int .i64 x.Track.Hits, .int .i64 x.Track.Misses, .int .i64 x.Slack, .int .i64 x.Last.Time, .int .i64 x.Last.At.X, .int .i64 x.Last.At.Y, .int .i64 x.Last.Height, .int .i64 x.Last.Code, .int .i64 x.Last.Error]
def FilterTrack.v (x : FilterTrack) : Value := .agg #[.int .i64 x.Track.ID, .int .i64 x.Track.State, .int .i64 x.Track.Time, .int .i64 x.Track.At.X, .int .i64 x.Track.At.Y, .int .i64 x.Track.Speed.X, .int .i64 x.Track.Speed.Y, .int .i64 x.Track.Height, .int .i64 x.Track.Rate, .int .i64 x.Track.Radius, .int .i64 x.Track.Code, .int .i64 x.Track.Hits, .int .i64 x.Track.Misses, .int .i64 x.Slack, .int .i64 x.Last.Time, .int .i64 x.Last.At.X, .int .i64 x.Last.At.Y, .int .i64 x.Last.Height, .int .i64 x.Last.Code, .int .i64 x.Last.Error]
def FilterTrack.zero : FilterTrack := ⟨⟨0, 0, 0, ⟨0, 0⟩, ⟨0, 0⟩, 0, 0, 0, 0, 0, 0⟩, 0, ⟨0, ⟨0, 0⟩, 0, 0, 0⟩⟩
theorem FilterTrack.one (x : FilterTrack) : x.c.toList.all Value.oneCell' = true := rfl
structure BeginState where
  (Hits Scans : Int)
deriving DecidableEq
def BeginState.c (x : BeginState) : Array Value := #[.int .i64 x.Hits, .int .i64 x.Scans]
def BeginState.v (x : BeginState) : Value := .agg #[.int .i64 x.Hits, .int .i64 x.Scans]
def BeginState.zero : BeginState := ⟨0, 0⟩
theorem BeginState.one (x : BeginState) : x.c.toList.all Value.oneCell' = true := rfl
structure ClimbReport where
  (Time Level : Int)
deriving DecidableEq
def ClimbReport.c (x : ClimbReport) : Array Value := #[.int .i64 x.Time, .int .i64 x.Level]
def ClimbReport.v (x : ClimbReport) : Value := .agg #[.int .i64 x.Time, .int .i64 x.Level]
def ClimbReport.zero : ClimbReport := ⟨0, 0⟩
theorem ClimbReport.one (x : ClimbReport) : x.c.toList.all Value.oneCell' = true := rfl
structure Sep where
  (Lateral Vertical : Int)
deriving DecidableEq
def Sep.c (x : Sep) : Array Value := #[.int .i64 x.Lateral, .int .i64 x.Vertical]
def Sep.v (x : Sep) : Value := .agg #[.int .i64 x.Lateral, .int .i64 x.Vertical]
def Sep.zero : Sep := ⟨0, 0⟩
theorem Sep.one (x : Sep) : x.c.toList.all Value.oneCell' = true := rfl
structure AlertPair where
  (A B Seconds : Int)
deriving DecidableEq
def AlertPair.c (x : AlertPair) : Array Value := #[.int .i64 x.A, .int .i64 x.B, .int .i64 x.Seconds]
def AlertPair.v (x : AlertPair) : Value := .agg #[.int .i64 x.A, .int .i64 x.B, .int .i64 x.Seconds]
def AlertPair.zero : AlertPair := ⟨0, 0, 0⟩
theorem AlertPair.one (x : AlertPair) : x.c.toList.all Value.oneCell' = true := rfl
structure Span where
  (From To : Int)
deriving DecidableEq
def Span.c (x : Span) : Array Value := #[.int .i64 x.From, .int .i64 x.To]
def Span.v (x : Span) : Value := .agg #[.int .i64 x.From, .int .i64 x.To]
def Span.zero : Span := ⟨0, 0⟩
theorem Span.one (x : Span) : x.c.toList.all Value.oneCell' = true := rfl
structure Node where
  (Time : Int)
  (At : P)
  (Height : Int)
deriving DecidableEq
def Node.c (x : Node) : Array Value := #[.int .i64 x.Time, .int .i64 x.At.X, .int .i64 x.At.Y, .int .i64 x.Height]
def Node.v (x : Node) : Value := .agg #[.int .i64 x.Time, .int .i64 x.At.X, .int .i64 x.At.Y, .int .i64 x.Height]
def Node.zero : Node := ⟨0, ⟨0, 0⟩, 0⟩
theorem Node.one (x : Node) : x.c.toList.all Value.oneCell' = true := rfl
structure TubeNode where
  (Node : Node)
  (Radius Band : Int)
deriving DecidableEq
def TubeNode.c (x : TubeNode) : Array Value := #[.int .i64 x.Node.Time, .int .i64 x.Node.At.X, .int .i64 x.Node.At.Y, .int .i64 x.Node.Height, .int .i64 x.Radius, .int .i64 x.Band]
def TubeNode.v (x : TubeNode) : Value := .agg #[.int .i64 x.Node.Time, .int .i64 x.Node.At.X, .int .i64 x.Node.At.Y, .int .i64 x.Node.Height, .int .i64 x.Radius, .int .i64 x.Band]
def TubeNode.zero : TubeNode := ⟨⟨0, ⟨0, 0⟩, 0⟩, 0, 0⟩
theorem TubeNode.one (x : TubeNode) : x.c.toList.all Value.oneCell' = true := rfl
structure TrackerRules where
  (Need Of Misses Accel Place Speed : Int)
deriving DecidableEq
def TrackerRules.c (x : TrackerRules) : Array Value := #[.int .i64 x.Need, .int .i64 x.Of, .int .i64 x.Misses, .int .i64 x.Accel, .int .i64 x.Place, .int .i64 x.Speed]
def TrackerRules.v (x : TrackerRules) : Value := .agg #[.int .i64 x.Need, .int .i64 x.Of, .int .i64 x.Misses, .int .i64 x.Accel, .int .i64 x.Place, .int .i64 x.Speed]
def TrackerRules.zero : TrackerRules := ⟨0, 0, 0, 0, 0, 0⟩
theorem TrackerRules.one (x : TrackerRules) : x.c.toList.all Value.oneCell' = true := rfl
structure followed where
  (f : FilterTrack)
  (history : BeginState)
  (hit : Bool)
deriving DecidableEq
def followed.c (x : followed) : Array Value := #[.int .i64 x.f.Track.ID, .int .i64 x.f.Track.State, .int .i64 x.f.Track.Time, .int .i64 x.f.Track.At.X, .int .i64 x.f.Track.At.Y, .int .i64 x.f.Track.Speed.X, .int .i64 x.f.Track.Speed.Y, .int .i64 x.f.Track.Height, .int .i64 x.f.Track.Rate, .int .i64 x.f.Track.Radius, .int .i64 x.f.Track.Code, .int .i64 x.f.Track.Hits, .int .i64 x.f.Track.Misses, .int .i64 x.f.Slack, .int .i64 x.f.Last.Time, .int .i64 x.f.Last.At.X, .int .i64 x.f.Last.At.Y, .int .i64 x.f.Last.Height, .int .i64 x.f.Last.Code, .int .i64 x.f.Last.Error, .int .i64 x.history.Hits, .int .i64 x.history.Scans, .bool x.hit]
def followed.v (x : followed) : Value := .agg #[.int .i64 x.f.Track.ID, .int .i64 x.f.Track.State, .int .i64 x.f.Track.Time, .int .i64 x.f.Track.At.X, .int .i64 x.f.Track.At.Y, .int .i64 x.f.Track.Speed.X, .int .i64 x.f.Track.Speed.Y, .int .i64 x.f.Track.Height, .int .i64 x.f.Track.Rate, .int .i64 x.f.Track.Radius, .int .i64 x.f.Track.Code, .int .i64 x.f.Track.Hits, .int .i64 x.f.Track.Misses, .int .i64 x.f.Slack, .int .i64 x.f.Last.Time, .int .i64 x.f.Last.At.X, .int .i64 x.f.Last.At.Y, .int .i64 x.f.Last.Height, .int .i64 x.f.Last.Code, .int .i64 x.f.Last.Error, .int .i64 x.history.Hits, .int .i64 x.history.Scans, .bool x.hit]
def followed.zero : followed := ⟨⟨⟨0, 0, 0, ⟨0, 0⟩, ⟨0, 0⟩, 0, 0, 0, 0, 0, 0⟩, 0, ⟨0, ⟨0, 0⟩, 0, 0, 0⟩⟩, ⟨0, 0⟩, false⟩
theorem followed.one (x : followed) : x.c.toList.all Value.oneCell' = true := rfl
end Go.Sky
