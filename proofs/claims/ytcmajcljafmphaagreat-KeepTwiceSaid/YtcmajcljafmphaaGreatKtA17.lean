/- The reference's Put. Conditions: what TrOk asks. -/
import Derived.Test.YtcmajcljafmphaaGreatKtA16
import Derived.Test.YtcmajcljafmphaaGreatKtA10
namespace Go.Proofs.YtcmajcljafmphaaGreat
open Go.RowKit
set_option maxRecDepth 100000
set_option linter.unusedVariables false
end Go.Proofs.YtcmajcljafmphaaGreat
