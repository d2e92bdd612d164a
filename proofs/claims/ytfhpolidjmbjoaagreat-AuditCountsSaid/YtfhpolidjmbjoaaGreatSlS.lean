/- A part of the proof. -/
import Derived.Test.YtfhpolidjmbjoaaGreatRows
import Derived.Test.YtfhpolidjmbjoaaGreatLib
import Derived.Lib.AppendZerosOnto
import Derived.Lib.Walk
namespace Go.Proofs.YtfhpolidjmbjoaaGreat
open Go.RowKit
end Go.Proofs.YtfhpolidjmbjoaaGreat
