/- The reference's Set. Conditions: at most a thousand nodes. -/
import Derived.Test.YtkefjeabckainaaGreatFaB14
namespace Go.Proofs.YtkefjeabckainaaGreat
open Go.RowKit
set_option maxRecDepth 100000
set_option linter.unusedVariables false
end Go.Proofs.YtkefjeabckainaaGreat
