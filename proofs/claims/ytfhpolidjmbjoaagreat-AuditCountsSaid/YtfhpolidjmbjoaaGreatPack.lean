/- A part of the proof. -/
import Derived.Test.YtfhpolidjmbjoaaGreatSegBody
import Derived.Laws.CopyOwn
import Derived.Deep.DeepCutAuto
namespace Go.Proofs.YtfhpolidjmbjoaaGreat
theorem recL_len {r:Rc} (hr:OkRc r):(recL r).1.length≤40030∧((recL r).2=0→r.data.length+4≤(recL r).1.length∧5≤(recL r).1.length):=by
 by_cases h:checkL r=0
 · rw [recL_ok hr h]
   have h1:=bodyR_le hr h;have h2:=frB_len (bodyR r);have h3:=putL_len10 (n:=(bodyR r).length) (by omega)
   have h4:=putL_pos (bodyR r).length;have h5:r.data.length≤(bodyR r).length:=by unfold bodyR;simp only [List.length_append];omega
   dsimp only;constructor
   · omega
   · intro _;omega
 · rw [recL_no h]
   exact ⟨by simp,fun h'=>absurd h' h⟩
end Go.Proofs.YtfhpolidjmbjoaaGreat
namespace Go.Proofs.YtfhpolidjmbjoaaGreat
open Go.RowKit
theorem Tryz.infR:(Tryz.prog.info? 106).map (fun i=>(i.zero,i.size,i.bytes))=some (some (.agg #[.int .i64 0,.int .i64 0,.int .i64 0,.int .i64 0,.int .i64 0,.int .i64 0,.slice none 0 0]),7,72):=by kernel_rfl
end Go.Proofs.YtfhpolidjmbjoaaGreat
