/- The reference's Rename. Conditions: what TrOk asks. -/
import Derived.Test.YtcmajcljafmphaaGreatKpA17
import Derived.Test.YtcmajcljafmphaaGreatKpA07
import Derived.Test.YtcmajcljafmphaaGreatKpA03
namespace Go.Proofs.YtcmajcljafmphaaGreat
open Go.RowKit
set_option maxRecDepth 100000
set_option linter.unusedVariables false
end Go.Proofs.YtcmajcljafmphaaGreat
