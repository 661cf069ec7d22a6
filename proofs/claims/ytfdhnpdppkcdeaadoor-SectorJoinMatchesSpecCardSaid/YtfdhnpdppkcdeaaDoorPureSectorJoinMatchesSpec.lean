import Derived.Test.YtfdhnpdppkcdeaaDoorPx17
import Derived.Test.YtfdhnpdppkcdeaaDoorSecF
namespace Go.Proofs.YtfdhnpdppkcdeaaDoor.Pure
open Go.RowKit Go.Proofs.YtfdhnpdppkcdeaaDoor.P Go.Proofs.YtfdhnpdppkcdeaaDoorW.PrintWords Go.Proofs.YtfdhnpdppkcdeaaDoorW.PrintLast Go.Proofs.YtfdhnpdppkcdeaaDoorW.PrintMore
theorem SectorJoinMatchesSpec (l0 : List ByteArray) (_w0 : l0.length ≤ 9223372036854775807) : ∃ k, custodylaw24_SectorJoinMatchesSpec.f k l0 = some true := by
  obtain ⟨c, hc, -⟩ := few_eq l0 (by omega) (k := l0.length + 1000) (by omega)
  refine ⟨l0.length + 1000, ?_⟩
  unfold custodylaw24_SectorJoinMatchesSpec.f
  rw [hc, join_eq (by omega), refjoin_eq (by omega), sanity_ok (by omega)]
  simp
end Go.Proofs.YtfdhnpdppkcdeaaDoor.Pure
