/- The reference's Rename. Conditions: what TrOk asks. -/
import Derived.Test.YtkefjeabckainaaGreatFtB34
import Derived.Test.YtkefjeabckainaaGreatFtB11
import Derived.Test.YtkefjeabckainaaGreatFtB02
namespace Go.Proofs.YtkefjeabckainaaGreat
set_option maxRecDepth 100000
set_option linter.unusedVariables false
open Go.RowKit
end Go.Proofs.YtkefjeabckainaaGreat
