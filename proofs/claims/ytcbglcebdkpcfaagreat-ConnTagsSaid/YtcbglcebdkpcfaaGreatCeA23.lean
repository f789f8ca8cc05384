/- Whether the texts that a type names are the same, in the reference (texts). Conditions: numbers in their types, bounds on lengths. -/
import Derived.Test.YtcbglcebdkpcfaaGreatCeA22
import Derived.BigQuiet
import Derived.Deep.QuietTactic
namespace Go.Proofs.YtcbglcebdkpcfaaGreat
open Go.RowKit
set_option maxRecDepth 100000
set_option linter.unusedVariables false
structure Two (w W : World) (a b : M) (vN1 vQ1 vN2 vQ2 : Value) (d1 d2 : ByteArray) : Prop where
  one : W.heap[w.heap.size]? = some (.cells (a.rcells vN1 vQ1 d1) 70 (0, 0))
  two : W.heap[w.heap.size + 1]? = some (.cells (b.rcells vN2 vQ2 d2) 70 (0, 0))
  bel : Below w.heap.size w W
theorem Two.start {w : World} {a b : M} {vN1 vQ1 vN2 vQ2 : Value} {d1 d2 : ByteArray} : Two w ((w.alloc (.cells (a.rcells vN1 vQ1 d1) 70)).alloc (.cells (b.rcells vN2 vQ2 d2) 70)) a b vN1 vQ1 vN2 vQ2 d1 d2 :=
  ⟨by rw [heap_alloc_old _ _ (by simp), heap_alloc_new], heap2 _ _ _, ((Below.refl w.heap.size w).alloc (Nat.le_refl _) _).alloc (by simp) _⟩
def M.rbytes (m : M) : List UInt8 := (slots m.ty).flatMap (Slot.r m)
def M.rerr (m : M) (e : Nat) : Nat := ((slots m.ty).map (Slot.re m)).foldl firstE e
end Go.Proofs.YtcbglcebdkpcfaaGreat
