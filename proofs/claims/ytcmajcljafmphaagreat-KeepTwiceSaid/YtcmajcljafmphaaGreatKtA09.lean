/- data of package tree: other bytes of a file. Conditions: numbers in their types, the list sorted, the file in it.
Cut of package tree. Conditions: what TrOk asks. -/
import Derived.Test.YtcmajcljafmphaaGreatKtA08
namespace Go.Proofs.YtcmajcljafmphaaGreat
section
open Go.RowKit
set_option maxRecDepth 100000
set_option linter.unusedVariables false

structure TrSt (p q r x : Nat) (v : Value) (l : List Nod) (n : Nod) (w : World) : Prop where
  tr : w.heap[p]? = some (.cells #[.int .u64 (x : Int), v] 33 (0, 0))
  nd : w.heap[q]? = some (.cells n.cells 68 (0, 0))
  res : w.heap[r]? = some (.cells #[.int .u64 0, .slice none 0 0] 33 (0, 0))
  row : NodsAt w v l
theorem TrSt.below {p q r x : Nat} {v : Value} {l : List Nod} {n : Nod} {w w' : World} (h : TrSt p q r x v l n w) (hb : Below w.heap.size w w') : TrSt p q r x v l n w' :=
  ⟨(hb.block _ (lt_of_block h.tr)).trans h.tr, (hb.block _ (lt_of_block h.nd)).trans h.nd, (hb.block _ (lt_of_block h.res)).trans h.res, h.row.below hb⟩
theorem TrSt.t0 {p q r x : Nat} {v : Value} {l : List Nod} {n : Nod} {w : World} (h : TrSt p q r x v l n w) : w.cell? ⟨p, 0, none⟩ = some (.int .u64 (x : Int)) := block_cell h.tr 0
theorem TrSt.t1 {p q r x : Nat} {v : Value} {l : List Nod} {n : Nod} {w : World} (h : TrSt p q r x v l n w) : w.cell? ⟨p, 1, none⟩ = some v := block_cell h.tr 1
theorem TrSt.put {p q r x : Nat} {v : Value} {l : List Nod} {n n2 : Nod} {w : World} (h : TrSt p q r x v l n w) (hpq : p ≠ q) (hrq : r ≠ q) (i : Nat) (u : Value) (hc : n.cells.setIfInBounds i u = n2.cells) (hrow : NodsAt (w.setCell ⟨q, i, none⟩ u) v l) : TrSt p q r x v l n2 (w.setCell ⟨q, i, none⟩ u) :=
  ⟨(block_set_other (by show p ≠ q; exact hpq)).trans h.tr, by rw [← hc]; exact block_set h.nd i u, (block_set_other (by show r ≠ q; exact hrq)).trans h.res, hrow⟩
theorem TrSt.two {p q r x : Nat} {v : Value} {l : List Nod} {n : Nod} {w : World} (h : TrSt p q r x v l n w) (hp : p ≠ r) (hq : q ≠ r) (i j : Nat) (u1 u2 : Value) :
    ((w.setCell ⟨r, i, none⟩ u1).setCell ⟨r, j, none⟩ u2).heap[p]? = some (.cells #[.int .u64 (x : Int), v] 33 (0, 0)) ∧ ((w.setCell ⟨r, i, none⟩ u1).setCell ⟨r, j, none⟩ u2).heap[q]? = some (.cells n.cells 68 (0, 0)) :=
  ⟨(block_set_other (by show p ≠ r; exact hp)).trans ((block_set_other (by show p ≠ r; exact hp)).trans h.tr), (block_set_other (by show q ≠ r; exact hq)).trans ((block_set_other (by show q ≠ r; exact hq)).trans h.nd)⟩
end
end Go.Proofs.YtcmajcljafmphaaGreat

namespace Go.Proofs.YtcmajcljafmphaaGreat
section
open Go.RowKit
set_option maxRecDepth 100000
set_option linter.unusedVariables false

structure TrOk (l : List Nod) : Prop where
  sort : SortL l
  few : l.length ≤ 80
  ok : ∀ n ∈ l, NodOk n
  low : ∀ n ∈ l, 1 ≤ n.path
  len : ∀ n ∈ l, n.data.size ≤ 5000
end
end Go.Proofs.YtcmajcljafmphaaGreat
