/- The reference's Set. Conditions: at most a thousand nodes. -/
import Derived.Test.YtkefjeabckainaaGreatFtB12
namespace Go.Proofs.YtkefjeabckainaaGreat
set_option maxRecDepth 100000
set_option linter.unusedVariables false
open Go.RowKit
end Go.Proofs.YtkefjeabckainaaGreat
