/- Layer 24: the sanity function answers true. -/
import Derived.Test.YtfdhnpdppkcdeaaDoorSecD
namespace Go.Proofs.YtfdhnpdppkcdeaaDoor.P
open Go.RowKit Go.Proofs.YtfdhnpdppkcdeaaDoorW.PrintWords Go.Proofs.YtfdhnpdppkcdeaaDoorW.PrintMore Go.Proofs.YtfdhnpdppkcdeaaDoorW.PrintLast
theorem sanity70 : custodylaw24_sanity.f 70 = some true := by decide +kernel
theorem sanity_ok {k : Nat} (hk : 70 ≤ k) : custodylaw24_sanity.f k = some true := by
  have h : ∀ d, custodylaw24_sanity.f (70 + d) = some true := by
    intro d
    induction d with
    | zero => exact sanity70
    | succ d ih => exact custodylaw24_sanity.mono (70 + d) _ ih
  have := h (k - 70)
  rwa [Nat.add_sub_cancel' hk] at this
end Go.Proofs.YtfdhnpdppkcdeaaDoor.P
