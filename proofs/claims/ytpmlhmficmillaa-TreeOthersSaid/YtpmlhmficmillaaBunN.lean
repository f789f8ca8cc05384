/- A record equals itself, in the program's and in the reference's type. No condition. -/
import Derived.Test.YtpmlhmficmillaaBunC
import Derived.Laws.StructEq
namespace Go.Proofs.Ytpmlhmficmillaa
open Go.RowKit
set_option maxRecDepth 100000
end Go.Proofs.Ytpmlhmficmillaa
