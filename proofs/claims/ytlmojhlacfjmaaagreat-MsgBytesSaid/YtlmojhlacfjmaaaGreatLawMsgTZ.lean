/- For every two messages law MsgTwo returns true. No condition beyond what a message is. -/
import Derived.Test.YtlmojhlacfjmaaaGreatBunV
import Derived.Test.YtlmojhlacfjmaaaGreatBunW
import Derived.Test.YtlmojhlacfjmaaaGreatBunQ
import Derived.Test.YtlmojhlacfjmaaaGreatMsgFewZ
import Derived.Test.YtlmojhlacfjmaaaGreatBunO
import Derived.Test.YtlmojhlacfjmaaaGreatBunL
import Derived.Test.YtlmojhlacfjmaaaGreatBunI2
namespace Go.Proofs.YtlmojhlacfjmaaaGreat
open Go.RowKit
set_option maxRecDepth 100000
set_option linter.unusedVariables false

theorem FewM.r {m : M} (h : FewM m) : RFew m := ⟨h.few, h.names, h.qids, by have := h.data; omega⟩
theorem known_is {t : Nat} (h : knownT t = true) (ht : t < 256) : 100 ≤ t ∧ t ≤ 127 ∧ t ≠ 106 := by
 unfold knownT at h
 simp at h
 omega
end Go.Proofs.YtlmojhlacfjmaaaGreat
