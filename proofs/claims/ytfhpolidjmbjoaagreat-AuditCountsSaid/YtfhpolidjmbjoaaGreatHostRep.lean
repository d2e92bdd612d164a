/- A part of the proof. -/
import Derived.Test.YtfhpolidjmbjoaaGreatSlS
import Derived.Test.YtfhpolidjmbjoaaGreatExtPut
import Derived.Test.YtfhpolidjmbjoaaGreatReplayFound
namespace Go.Proofs.YtfhpolidjmbjoaaGreat
open Go.RowKit
structure Fn where
 zone:Int
 host:Int
 epoch:Int
def someB (lba n most:Int):Prop:=0≤lba∧1≤n∧n≤most∧lba≤1099511627776-n
instance (lba n most:Int):Decidable (someB lba n most):=inferInstanceAs (Decidable (_∧_))
end Go.Proofs.YtfhpolidjmbjoaaGreat
