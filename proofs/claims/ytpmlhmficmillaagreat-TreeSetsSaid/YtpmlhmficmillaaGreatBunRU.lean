/- The reference's Put. Conditions: what TrOk asks.
The reference's Rename. Conditions: what TrOk asks. -/
import Derived.Test.YtpmlhmficmillaaGreatBunRT
import Derived.Test.YtpmlhmficmillaaGreatBunTB
import Derived.Test.YtpmlhmficmillaaGreatBunRN
import Derived.Test.YtpmlhmficmillaaGreatBunVT
namespace Go.Proofs.YtpmlhmficmillaaGreat
section
open Go.RowKit
set_option maxRecDepth 100000
set_option linter.unusedVariables false
end
end Go.Proofs.YtpmlhmficmillaaGreat

namespace Go.Proofs.YtpmlhmficmillaaGreat
section
open Go.RowKit
set_option maxRecDepth 100000
set_option linter.unusedVariables false
end
end Go.Proofs.YtpmlhmficmillaaGreat
