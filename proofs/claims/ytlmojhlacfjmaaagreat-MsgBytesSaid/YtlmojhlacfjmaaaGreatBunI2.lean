/- How the fields of what comes in to a law are told to its walk; a record. No condition.
How a message that comes in to a law is told to its walk. No condition. -/
import Derived.Test.YtlmojhlacfjmaaaGreatFrameKitZ
import Derived.Test.YtlmojhlacfjmaaaGreatBunC
import Derived.Test.YtlmojhlacfjmaaaGreatBunP
namespace Go.Proofs.YtlmojhlacfjmaaaGreat
section
open Go.ChangeShapes Go.WideShapes Go.ChangeAt Go.RowKit
set_option maxRecDepth 100000
set_option linter.unusedVariables false
end
end Go.Proofs.YtlmojhlacfjmaaaGreat

namespace Go.Proofs.YtlmojhlacfjmaaaGreat
section
open Go.ChangeShapes Go.WideShapes Go.ChangeAt Go.RowKit
set_option maxRecDepth 100000
set_option linter.unusedVariables false
end
end Go.Proofs.YtlmojhlacfjmaaaGreat
