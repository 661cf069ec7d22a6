-- PRINTED BY print.sh 35421559b90ae4d0a3588c463048766b98c2df88dd9212a6774a882060cdf62d: not written by this session
import Derived.Test.YtfdhnpdppkcdeaaDoorWInv
import Derived.Test.YtfdhnpdppkcdeaaDoorWFootNe
namespace Go.Proofs.YtfdhnpdppkcdeaaDoorW.PrintWords
open Go.RowKit
end Go.Proofs.YtfdhnpdppkcdeaaDoorW.PrintWords
namespace Go.Proofs.YtfdhnpdppkcdeaaDoorW.PrintLast
section
variable {ops : Array Oper} {a : Act} {o og : Oper} {g : Nat} {t : Tmp} {u : Bool}
end
end Go.Proofs.YtfdhnpdppkcdeaaDoorW.PrintLast
