/- symMergeCmpFunc, a lone node on the left: it moves up to its place. Conditions: two sorted stretches, the left one of one node.
symMergeCmpFunc, a lone node on the right: it moves down to its place. Conditions: two sorted stretches, the right one of one node, the left one of more.
symMergeCmpFunc, two stretches of more than one node: parted at their middle, turned, merged by parts. Conditions: two sorted stretches; the function does so for shorter ones. -/
import Derived.Test.YtcmajcljafmphaaGreatKtA31
namespace Go.Proofs.YtcmajcljafmphaaGreat
section
open Go.RowKit
set_option maxRecDepth 100000
set_option linter.unusedVariables false
end
end Go.Proofs.YtcmajcljafmphaaGreat

namespace Go.Proofs.YtcmajcljafmphaaGreat
section
open Go.RowKit
set_option maxRecDepth 100000
set_option linter.unusedVariables false
end
end Go.Proofs.YtcmajcljafmphaaGreat

namespace Go.Proofs.YtcmajcljafmphaaGreat
section
open Go.RowKit
set_option maxRecDepth 100000
set_option linter.unusedVariables false
end
end Go.Proofs.YtcmajcljafmphaaGreat
