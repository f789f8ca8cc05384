/- The reference's Rename. Conditions: what TrOk asks. -/
import Derived.Test.YtcmajcljafmphaaGreatKtA17
import Derived.Test.YtcmajcljafmphaaGreatKtA07
import Derived.Test.YtcmajcljafmphaaGreatKtA03
namespace Go.Proofs.YtcmajcljafmphaaGreat
open Go.RowKit
set_option maxRecDepth 100000
set_option linter.unusedVariables false
end Go.Proofs.YtcmajcljafmphaaGreat
