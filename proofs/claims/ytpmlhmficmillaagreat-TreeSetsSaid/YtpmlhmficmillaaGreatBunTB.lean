/- Cut of package tree. Conditions: what TrOk asks. And the texts behind it. -/
import Derived.Test.YtpmlhmficmillaaGreatBunTA
namespace Go.Proofs.YtpmlhmficmillaaGreat
section
open Go.RowKit
set_option maxRecDepth 100000
set_option linter.unusedVariables false

structure TrOk (l : List Nod) : Prop where
  sort : SortL l
  few : l.length ≤ 80
  ok : ∀ n ∈ l, NodOk n
  low : ∀ n ∈ l, 1 ≤ n.path
  len : ∀ n ∈ l, n.data.size ≤ 5000
end
end Go.Proofs.YtpmlhmficmillaaGreat

namespace Go.Proofs.YtpmlhmficmillaaGreat
section
open Go.RowKit
set_option maxRecDepth 100000
set_option linter.unusedVariables false
end
end Go.Proofs.YtpmlhmficmillaaGreat

namespace Go.Proofs.YtpmlhmficmillaaGreat
section
open Go.RowKit
set_option maxRecDepth 100000
set_option linter.unusedVariables false
end
end Go.Proofs.YtpmlhmficmillaaGreat

namespace Go.Proofs.YtpmlhmficmillaaGreat
section
open Go.RowKit
set_option maxRecDepth 100000
set_option linter.unusedVariables false
end
end Go.Proofs.YtpmlhmficmillaaGreat

namespace Go.Proofs.YtpmlhmficmillaaGreat
section
open Go.RowKit
set_option maxRecDepth 100000
set_option linter.unusedVariables false
end
end Go.Proofs.YtpmlhmficmillaaGreat

namespace Go.Proofs.YtpmlhmficmillaaGreat
section
open Go.RowKit
set_option maxRecDepth 100000
set_option linter.unusedVariables false
end
end Go.Proofs.YtpmlhmficmillaaGreat
