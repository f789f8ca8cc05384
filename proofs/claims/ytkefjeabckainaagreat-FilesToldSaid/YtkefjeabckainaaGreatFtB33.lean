/- The reference's Take. Conditions: what TrOk asks.
The reference's Cut. Conditions: what TrOk asks. -/
import Derived.Test.YtkefjeabckainaaGreatFtB23
import Derived.Test.YtkefjeabckainaaGreatFtB12
import Derived.Test.YtkefjeabckainaaGreatFtB32
namespace Go.Proofs.YtkefjeabckainaaGreat
set_option maxRecDepth 100000
set_option linter.unusedVariables false
section
open Go.RowKit
end
section
open Go.RowKit
end
end Go.Proofs.YtkefjeabckainaaGreat
