/- The reference's Set. Conditions: at most a thousand nodes. -/
import Derived.Test.YtcmajcljafmphaaGreatKtA07
namespace Go.Proofs.YtcmajcljafmphaaGreat
open Go.RowKit
set_option maxRecDepth 100000
set_option linter.unusedVariables false
end Go.Proofs.YtcmajcljafmphaaGreat
