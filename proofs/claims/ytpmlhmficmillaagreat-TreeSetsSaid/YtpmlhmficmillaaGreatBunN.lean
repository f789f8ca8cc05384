/- A record equals itself, in the program's and in the reference's type. No condition. -/
import Derived.Test.YtpmlhmficmillaaGreatBunC
import Derived.Laws.StructEq
namespace Go.Proofs.YtpmlhmficmillaaGreat
open Go.RowKit
set_option maxRecDepth 100000
end Go.Proofs.YtpmlhmficmillaaGreat
