/- Unlink of package tree. Conditions: what TrOk asks. -/
import Derived.Test.YtpmlhmficmillaaBunTB
import Derived.Test.YtpmlhmficmillaaBunSC
namespace Go.Proofs.Ytpmlhmficmillaa
open Go.RowKit
set_option maxRecDepth 100000
set_option linter.unusedVariables false
end Go.Proofs.Ytpmlhmficmillaa
