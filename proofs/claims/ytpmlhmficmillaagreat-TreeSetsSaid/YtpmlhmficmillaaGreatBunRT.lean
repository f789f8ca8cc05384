/- The reference's touched, padded, Reap. Conditions: what TrOk asks.
The reference's Take. Conditions: what TrOk asks.
The reference's Cut. Conditions: what TrOk asks. -/
import Derived.Test.YtpmlhmficmillaaGreatBunRN5
import Derived.Test.YtpmlhmficmillaaGreatBunTB
import Derived.Test.YtpmlhmficmillaaGreatBunRN
namespace Go.Proofs.YtpmlhmficmillaaGreat
section
open Go.RowKit
set_option maxRecDepth 100000
set_option linter.unusedVariables false

structure TrR (p q r x : Nat) (v : Value) (l : List Nod) (n : Nod) (w : World) : Prop where
  tr : w.heap[p]? = some (.cells #[.int .u64 (x : Int), v] 33 (0, 0))
  nd : w.heap[q]? = some (.cells n.cells 38 (0, 0))
  res : w.heap[r]? = some (.cells #[.int .u64 0, .slice none 0 0] 33 (0, 0))
  row : NodsAt w v l
theorem TrR.below {p q r x : Nat} {v : Value} {l : List Nod} {n : Nod} {w w' : World} (h : TrR p q r x v l n w) (hb : Below w.heap.size w w') : TrR p q r x v l n w' :=
  ⟨(hb.block _ (lt_of_block h.tr)).trans h.tr, (hb.block _ (lt_of_block h.nd)).trans h.nd, (hb.block _ (lt_of_block h.res)).trans h.res, h.row.below hb⟩
theorem TrR.t0 {p q r x : Nat} {v : Value} {l : List Nod} {n : Nod} {w : World} (h : TrR p q r x v l n w) : w.cell? ⟨p, 0, none⟩ = some (.int .u64 (x : Int)) := block_cell h.tr 0
theorem TrR.t1 {p q r x : Nat} {v : Value} {l : List Nod} {n : Nod} {w : World} (h : TrR p q r x v l n w) : w.cell? ⟨p, 1, none⟩ = some v := block_cell h.tr 1
theorem TrR.put {p q r x : Nat} {v : Value} {l : List Nod} {n n2 : Nod} {w : World} (h : TrR p q r x v l n w) (hpq : p ≠ q) (hrq : r ≠ q) (i : Nat) (u : Value) (hc : n.cells.setIfInBounds i u = n2.cells) (hrow : NodsAt (w.setCell ⟨q, i, none⟩ u) v l) : TrR p q r x v l n2 (w.setCell ⟨q, i, none⟩ u) :=
  ⟨(block_set_other (by show p ≠ q; exact hpq)).trans h.tr, by rw [← hc]; exact block_set h.nd i u, (block_set_other (by show r ≠ q; exact hrq)).trans h.res, hrow⟩
def boxR (w : World) (n : Nod) : World := (w.alloc (.cells zeroNod.cells 38)).setRow w.heap.size n.cells
theorem boxR_heap (w : World) (n : Nod) : (boxR w n).heap[w.heap.size]? = some (.cells n.cells 38 (0, 0)) := setRow_heap _ _ _ _ _ _ (heap_alloc_new _ _)
theorem boxR_below (w : World) (n : Nod) : Below w.heap.size w (boxR w n) := below_setRow ((Below.refl _ _).alloc (Nat.le_refl _) _) (Nat.le_refl _) _
end
end Go.Proofs.YtpmlhmficmillaaGreat

namespace Go.Proofs.YtpmlhmficmillaaGreat
section
open Go.RowKit
set_option maxRecDepth 100000
set_option linter.unusedVariables false
end
end Go.Proofs.YtpmlhmficmillaaGreat

namespace Go.Proofs.YtpmlhmficmillaaGreat
section
open Go.RowKit
set_option maxRecDepth 100000
set_option linter.unusedVariables false
end
end Go.Proofs.YtpmlhmficmillaaGreat
