/- What the reference's Encode returns: the program's bytes and error. Conditions: numbers in their types, few names, qids, data. -/
import Derived.Test.YtlmojhlacfjmaaaGreatBunU
import Derived.Test.YtlmojhlacfjmaaaGreatBunV
import Derived.Test.YtlmojhlacfjmaaaGreatBunJ
import Derived.Test.YtlmojhlacfjmaaaGreatBunQ
import Derived.Test.YtlmojhlacfjmaaaGreatBunL
import Derived.Deep.RegionHeld3
namespace Go.Proofs.YtlmojhlacfjmaaaGreat
open Go.RowKit
set_option maxRecDepth 100000
set_option linter.unusedVariables false
def M.long (m : M) : Prop := m.ty = 110 ∧ 16 < m.names.length ∨ m.ty = 111 ∧ 16 < m.qids.length ∨ (m.ty = 117 ∨ m.ty = 118) ∧ 8192 < m.data.length
end Go.Proofs.YtlmojhlacfjmaaaGreat
