/- The reference's Cut. Conditions: what TrOk asks. -/
import Derived.Test.YtcmajcljafmphaaGreatKtA15
namespace Go.Proofs.YtcmajcljafmphaaGreat
open Go.RowKit
set_option maxRecDepth 100000
set_option linter.unusedVariables false
end Go.Proofs.YtcmajcljafmphaaGreat
