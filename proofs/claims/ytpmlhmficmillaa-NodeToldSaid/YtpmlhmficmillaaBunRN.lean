/- The reference's trees: kid, Get, Find, Bytes. Conditions: at most a thousand nodes.
The reference's Drop. Conditions: at most a thousand nodes. -/
import Derived.Test.YtpmlhmficmillaaBunND
import Derived.Test.YtpmlhmficmillaaBunNE
namespace Go.Proofs.Ytpmlhmficmillaa
section
open Go.RowKit
set_option maxRecDepth 100000
set_option linter.unusedVariables false
end
end Go.Proofs.Ytpmlhmficmillaa

namespace Go.Proofs.Ytpmlhmficmillaa
section
open Go.RowKit
set_option maxRecDepth 100000
set_option linter.unusedVariables false
theorem drop_take {l : List Nod} {k : Nat} (hk : k < l.length) (p : Nat) : dropL (l.take (k + 1)) p = dropL (l.take k) p ++ (if l[k].path = p then [] else [l[k]]) := by
  unfold dropL
  rw [List.take_succ_eq_append_getElem hk, List.filter_append]
  by_cases h : l[k].path = p <;> simp [h]
end
end Go.Proofs.Ytpmlhmficmillaa
