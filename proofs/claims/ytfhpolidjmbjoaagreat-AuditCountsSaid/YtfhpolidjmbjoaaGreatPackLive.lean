/- A part of the proof. -/
import Derived.Test.YtfhpolidjmbjoaaGreatScan
import Derived.Deep.OwnRows
namespace Go.Proofs.YtfhpolidjmbjoaaGreat
end Go.Proofs.YtfhpolidjmbjoaaGreat
namespace Go.Proofs.YtfhpolidjmbjoaaGreat
open Go.RowKit
end Go.Proofs.YtfhpolidjmbjoaaGreat
