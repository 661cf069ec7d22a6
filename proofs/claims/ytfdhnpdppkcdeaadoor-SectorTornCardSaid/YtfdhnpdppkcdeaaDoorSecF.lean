/- Plain Lean about layer 24: Join, in the program and in the specification; what it makes of a packed record. -/
import Derived.Test.YtfdhnpdppkcdeaaDoorSecE
import Derived.Test.YtfdhnpdppkcdeaaDoorHandJoin
import Derived.Test.YtfdhnpdppkcdeaaDoorPx16
namespace Go.Proofs.YtfdhnpdppkcdeaaDoor.P
open Go.RowKit Go.Proofs.YtfdhnpdppkcdeaaDoorW.PrintWords Go.Proofs.YtfdhnpdppkcdeaaDoorW.PrintMore Go.Proofs.YtfdhnpdppkcdeaaDoorW.PrintLast

theorem openS_ok {s : ByteArray} (h : (openS s).2.2.2.2 = 0) : s.size = 64 ∧ Good s ∧ openS s = (numOf s, partOf s, leftOf s, s.extract 12 (12 + shown s), 0) := by
  unfold openS at h ⊢
  split at h
  · rename_i h1
    split at h
    · rename_i h2
      exact ⟨h1, h2, by rw [if_pos h1, if_pos h2]⟩
    · simp at h
  · simp at h
/-! ### what a packed sector opens to -/
end Go.Proofs.YtfdhnpdppkcdeaaDoor.P
