/- Law TreePlays returns true. Conditions: the arguments as they come in. -/
import Derived.Test.YtpmlhmficmillaaPly1Z
import Derived.Test.YtpmlhmficmillaaBunRD
import Derived.Test.YtpmlhmficmillaaBunTG
namespace Go.Proofs.Ytpmlhmficmillaa
open Go.RowKit
set_option maxRecDepth 100000
set_option linter.unusedVariables false
theorem fewAs_of {l : List ActV} (h : fewAs l = true) : ∀ z ∈ l, fewA z = true := by
  unfold fewAs at h
  simp only [Bool.and_eq_true, List.all_eq_true] at h
  exact h.2
def LawTrue (w : World) (e : Ending) (w' : World) : Prop := e = .returned (.bool true) ∧ Below w.heap.size w w'
end Go.Proofs.Ytpmlhmficmillaa
