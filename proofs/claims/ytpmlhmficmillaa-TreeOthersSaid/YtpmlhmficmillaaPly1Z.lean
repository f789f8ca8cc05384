/- The regions of law TreePlays, operation by operation. Conditions: numbers in their types. -/
import Derived.Test.YtpmlhmficmillaaBunRX
import Derived.Test.YtpmlhmficmillaaBunSV
import Derived.Test.YtpmlhmficmillaaRNd4Z
import Derived.Test.YtpmlhmficmillaaRNd5Z
import Derived.Test.YtpmlhmficmillaaBunRE
namespace Go.Proofs.Ytpmlhmficmillaa
open Go.RowKit
set_option maxRecDepth 100000
set_option linter.unusedVariables false

structure PlS (B g2 g5 : Nat) (av : Value) (x : Nat) (l : List Nod) (tv uv : Value) (al : List ActV) (w0 w : World) : Prop where
  bel : Below B w0 w
  tb : w.heap[g2]? = some (.cells #[.int .u64 (x : Int), tv] 25 (0, 0))
  ub : w.heap[g5]? = some (.cells #[.int .u64 (x : Int), uv] 32 (0, 0))
  tr : NodsAt w tv l
  ur : NodsAt w uv l
  ac : ActsAt w av al
  hB : B ≤ w.heap.size
theorem PlS.next {B g2 g5 x : Nat} {av : Value} {l : List Nod} {tv uv : Value} {al : List ActV} {w0 w w' : World} (h : PlS B g2 g5 av x l tv uv al w0 w) (hb : Below w.heap.size w w') : PlS B g2 g5 av x l tv uv al w0 w' :=
  ⟨h.bel.trans (hb.mono h.hB), (hb.block _ (lt_of_block h.tb)).trans h.tb, (hb.block _ (lt_of_block h.ub)).trans h.ub, h.tr.below hb, h.ur.below hb, h.ac.below hb, Nat.le_trans h.hB hb.size⟩
theorem PlS.drew {B g2 g5 x : Nat} {av : Value} {l : List Nod} {tv uv : Value} {al : List ActV} {w0 w : World} (h : PlS B g2 g5 av x l tv uv al w0 w) : PlS B g2 g5 av x l tv uv al w0 w.drew := h.next (Below.refl _ _).drew
theorem PlS.el {B g2 g5 bA oA cA x : Nat} {l : List Nod} {tv uv : Value} {al : List ActV} {w0 w : World} (h : PlS B g2 g5 (.slice (some ⟨bA, oA, none⟩) al.length cA) x l tv uv al w0 w) (j : Nat) (m : ActV) (hm : al[j]? = some m) : w.rangeAt bA (oA + j * 11) m.cells.toList := by
  obtain ⟨hj, rfl⟩ := List.getElem?_eq_some_iff.1 hm
  obtain ⟨b', o', ha, hr⟩ := h.ac.range j hj
  cases ha
  exact hr
theorem rld_ntree {z : Nat} {u v : Value} {w : World} (h0 : w.cell? ⟨z, 0, none⟩ = some u) (h1 : w.cell? ⟨z, 1, none⟩ = some v) : (loadVar 25 ⟨z, 0, none⟩).run Try.prog w = .ok (.agg #[u, v]) w := by
  have hl : (loadCells ⟨z, 0, none⟩ 2).run Try.prog w = .ok #[u, v] w := by
    refine run_loadCells_list (P := Try.prog) (w := w) ⟨z, 0, none⟩ [u, v] (fun j s hv => ?_)
    match j, hv with
    | 0, hv => cases hv; exact h0
    | 1, hv => cases hv; exact h1
  obtain ⟨i0, hi0, hz0⟩ : ∃ i0, Try.prog.info? 25 = some i0 ∧ i0.size = 2 := ⟨_, rfl, rfl⟩
  have hagg : (isAgg 25).run Try.prog w = .ok true w := by kernel_rfl
  simp [loadVar, Sem.run_bind, hagg, sizeOf, typeInfo, hi0, hz0, hl]

end Go.Proofs.Ytpmlhmficmillaa
