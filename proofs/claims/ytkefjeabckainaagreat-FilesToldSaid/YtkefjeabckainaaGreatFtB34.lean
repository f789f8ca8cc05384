/- The reference's Put. Conditions: what TrOk asks. -/
import Derived.Test.YtkefjeabckainaaGreatFtB33
import Derived.Test.YtkefjeabckainaaGreatFtB10
namespace Go.Proofs.YtkefjeabckainaaGreat
set_option maxRecDepth 100000
set_option linter.unusedVariables false
open Go.RowKit
end Go.Proofs.YtkefjeabckainaaGreat
