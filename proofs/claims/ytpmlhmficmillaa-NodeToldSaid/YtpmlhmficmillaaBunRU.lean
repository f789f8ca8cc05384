/- The reference's Put. Conditions: what TrOk asks.
The reference's Rename. Conditions: what TrOk asks. -/
import Derived.Test.YtpmlhmficmillaaBunRT
import Derived.Test.YtpmlhmficmillaaBunTB
import Derived.Test.YtpmlhmficmillaaBunRN
import Derived.Test.YtpmlhmficmillaaBunVT
namespace Go.Proofs.Ytpmlhmficmillaa
section
open Go.RowKit
set_option maxRecDepth 100000
set_option linter.unusedVariables false
end
end Go.Proofs.Ytpmlhmficmillaa

namespace Go.Proofs.Ytpmlhmficmillaa
section
open Go.RowKit
set_option maxRecDepth 100000
set_option linter.unusedVariables false
end
end Go.Proofs.Ytpmlhmficmillaa
