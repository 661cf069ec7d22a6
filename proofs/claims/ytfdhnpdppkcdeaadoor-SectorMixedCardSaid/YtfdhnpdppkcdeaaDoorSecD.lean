/- Plain Lean about layer 24: the specification's Pack, Same and few. -/
import Derived.Test.YtfdhnpdppkcdeaaDoorSecC
namespace Go.Proofs.YtfdhnpdppkcdeaaDoor.P
open Go.RowKit Go.Proofs.YtfdhnpdppkcdeaaDoorW.PrintWords Go.Proofs.YtfdhnpdppkcdeaaDoorW.PrintMore Go.Proofs.YtfdhnpdppkcdeaaDoorW.PrintLast

/-! ### Same, few -/
end Go.Proofs.YtfdhnpdppkcdeaaDoor.P
