/- The reference's Way: whether there is one. Conditions: at most nine hundred nodes.
The long tests of the reference's wrong, operation by operation. Conditions: numbers in their types. -/
import Derived.Test.YtpmlhmficmillaaBunRT
import Derived.Test.YtpmlhmficmillaaBunRX
import Derived.Test.YtpmlhmficmillaaBunRU
namespace Go.Proofs.Ytpmlhmficmillaa
section
open Go.RowKit
set_option maxRecDepth 100000
set_option linter.unusedVariables false
end
end Go.Proofs.Ytpmlhmficmillaa

namespace Go.Proofs.Ytpmlhmficmillaa
section
open Go.RowKit
set_option maxRecDepth 100000
set_option linter.unusedVariables false

structure WrS (B g z b f x c : Nat) (l : List Nod) (n : Nod) (w0 w : World) : Prop where
  bel : Below B w0 w
  box : w.heap[g]? = some (.cells #[.int .u64 (x : Int), .slice (some ⟨b, f, none⟩) l.length c] 32 (0, 0))
  nod : w.heap[z]? = some (.cells n.cells 71 (0, 0))
  row : NodsAt w (.slice (some ⟨b, f, none⟩) l.length c) l
  hB : B ≤ w.heap.size
theorem WrS.next {B g z b f x c : Nat} {l : List Nod} {n : Nod} {w0 w w' : World} (h : WrS B g z b f x c l n w0 w) (hb : Below w.heap.size w w') : WrS B g z b f x c l n w0 w' :=
  ⟨h.bel.trans (hb.mono h.hB), (hb.block _ (lt_of_block h.box)).trans h.box, (hb.block _ (lt_of_block h.nod)).trans h.nod, h.row.below hb, Nat.le_trans h.hB hb.size⟩
theorem WrS.drew {B g z b f x c : Nat} {l : List Nod} {n : Nod} {w0 w : World} (h : WrS B g z b f x c l n w0 w) : WrS B g z b f x c l n w0 w.drew := h.next (Below.refl _ _).drew
theorem WrS.el {B g z b f x c : Nat} {l : List Nod} {n : Nod} {w0 w : World} (h : WrS B g z b f x c l n w0 w) (j : Nat) (m : Nod) (hm : l[j]? = some m) : w.rangeAt b (f + j * 12) m.cells.toList := by
  obtain ⟨hj, rfl⟩ := List.getElem?_eq_some_iff.1 hm
  obtain ⟨b', o', ha, hr⟩ := h.row.range j hj
  cases ha
  exact hr
theorem range_whole {w : World} {z : Nat} {cs : Array Value} {T : TypeId} {fr : Nat × Nat} (h : w.heap[z]? = some (.cells cs T fr)) : w.rangeAt z 0 cs.toList := fun j v hv => by
  rw [Nat.zero_add, block_cell h j]; simpa using hv
end
end Go.Proofs.Ytpmlhmficmillaa
