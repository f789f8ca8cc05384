/- What Few of layers 4 and 5 returns. No further condition. -/
import Derived.Test.YtlmojhlacfjmaaaGreatBunP
namespace Go.Proofs.YtlmojhlacfjmaaaGreat
open Go.RowKit
set_option maxRecDepth 100000
set_option linter.unusedVariables false

instance (s : Stat) : Decidable (Few s) :=
 if h : s.name.size ≤ 200 ∧ s.uid.size ≤ 200 ∧ s.gid.size ≤ 200 ∧ s.muid.size ≤ 200 then isTrue ⟨h.1, h.2.1, h.2.2.1, h.2.2.2⟩ else isFalse fun f => h ⟨f.name, f.uid, f.gid, f.muid⟩

def fewB (s : Stat) : Bool := decide (Few s)

structure FewM (m : M) : Prop where
 names : m.names.length ≤ 30
 qids : m.qids.length ≤ 30
 data : m.data.length ≤ 9000
 few : MFew m
end Go.Proofs.YtlmojhlacfjmaaaGreat
