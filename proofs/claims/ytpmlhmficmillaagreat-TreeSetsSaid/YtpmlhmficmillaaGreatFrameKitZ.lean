/- How what comes in to a law is told to its walk. No condition. -/
import Derived.Test.YtpmlhmficmillaaGreatBunNA
import Derived.ProofKit
import Derived.OpenShut
import Derived.ChangeOld
namespace Go.Proofs.YtpmlhmficmillaaGreat
open Go.ChangeShapes Go.WideShapes Go.ChangeAt Go.RowKit
set_option maxRecDepth 100000
end Go.Proofs.YtpmlhmficmillaaGreat
