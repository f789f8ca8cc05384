/- Unlink of package tree. Conditions: what TrOk asks. -/
import Derived.Test.YtpmlhmficmillaaGreatBunTB
import Derived.Test.YtpmlhmficmillaaGreatBunSC
namespace Go.Proofs.YtpmlhmficmillaaGreat
open Go.RowKit
set_option maxRecDepth 100000
set_option linter.unusedVariables false
end Go.Proofs.YtpmlhmficmillaaGreat
