/- Plain Lean about layer 24: the specification's Open and Pack; the checks of the sanity function. -/
import Derived.Test.YtfdhnpdppkcdeaaDoorSecB
import Derived.Test.YtfdhnpdppkcdeaaDoorPx7
import Derived.Test.YtfdhnpdppkcdeaaDoorPx13
import Derived.Test.YtfdhnpdppkcdeaaDoorPx15
namespace Go.Proofs.YtfdhnpdppkcdeaaDoor.P
open Go.RowKit Go.Proofs.YtfdhnpdppkcdeaaDoorW.PrintWords Go.Proofs.YtfdhnpdppkcdeaaDoorW.PrintMore Go.Proofs.YtfdhnpdppkcdeaaDoorW.PrintLast

/-! ### the specification's put and Pack -/
theorem byte_rep (n : Nat) : Byte (List.replicate n 0) := by
  intro b hb
  have := (List.mem_replicate.1 hb).2
  omega
theorem size_strOfNums (l : List Int) (h : Byte l) : (strOfNums l).size = l.length := by
  rw [← bytesOf_length, bytesOf_strOfNums h]
end Go.Proofs.YtfdhnpdppkcdeaaDoor.P
