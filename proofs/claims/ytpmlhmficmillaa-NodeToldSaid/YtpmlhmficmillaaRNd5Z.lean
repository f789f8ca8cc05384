/- Two nodes of the reference compared; two trees: Same. Conditions: at most a thousand nodes. -/
import Derived.Test.YtpmlhmficmillaaBunRN
import Derived.Test.YtpmlhmficmillaaBunSB
import Derived.Test.YtpmlhmficmillaaBunN
namespace Go.Proofs.Ytpmlhmficmillaa
open Go.RowKit
set_option maxRecDepth 100000
set_option linter.unusedVariables false
attribute [local go_sem ↓] load12_eq

theorem toListInj {s t : ByteArray} (h : s.toList = t.toList) : s = t := by
  rw [ByteArray.toList_eq, ByteArray.toList_eq] at h
  cases s; cases t
  simpa using h
def eqN (x y : Nod) : Bool := decide (x.path = y.path ∧ x.vers = y.vers ∧ x.mode = y.mode ∧ x.atm = y.atm ∧ x.mtm = y.mtm ∧ x.name = y.name ∧ x.uid = y.uid ∧ x.gid = y.gid ∧ x.muid = y.muid ∧ x.up = y.up ∧ x.gone = y.gone ∧ x.data = y.data)
theorem eqN_iff {x y : Nod} : eqN x y = true ↔ x = y := by
  unfold eqN
  rw [decide_eq_true_eq]
  constructor
  · rintro ⟨a1, a2, a3, a4, a5, a6, a7, a8, a9, a10, a11, a12⟩
    cases x; cases y; simp only at *; subst a1 a2 a3 a4 a5 a6 a7 a8 a9 a10 a11 a12; rfl
  · rintro rfl; simp
def eqL : List Nod → List Nod → Bool
  | [], [] => true
  | x :: l, y :: m => eqN x y && eqL l m
  | _, _ => false
theorem eqL_iff : ∀ {l m : List Nod}, eqL l m = true ↔ l = m
  | [], [] => by simp [eqL]
  | x :: l, y :: m => by simp [eqL, eqN_iff, eqL_iff]
  | [], y :: m => by simp [eqL]
  | x :: l, [] => by simp [eqL]
theorem eqL_step {l m : List Nod} {k : Nat} (h1 : k < l.length) (h2 : k < m.length) : eqL (l.drop k) (m.drop k) = (eqN l[k] m[k] && eqL (l.drop (k + 1)) (m.drop (k + 1))) := by
  rw [List.drop_eq_getElem_cons h1, List.drop_eq_getElem_cons h2]; rfl
def ncmpN (a b : Value) : Sem Value := binOp .neq 71 a b
theorem ncmpN_eq (a b : Value) : binOp .neq 71 a b = ncmpN a b := rfl
attribute [local go_sem ↓] ncmpN_eq
theorem range_load {P : Program} {w : World} {b o : Nat} {n : Nod} (h : w.rangeAt b o n.cells.toList) : Sem.run P (load12 ⟨b, o, none⟩) w = .ok n.cells w := by
  have hl : n.cells.toList.length = 12 := by rw [nod_cells]; rfl
  have := run_loadCells_list (P := P) (w := w) ⟨b, o, none⟩ n.cells.toList (fun j v hv => by rw [Addr.add_mid]; exact h j v hv)
  rw [hl] at this
  simpa [loadCells, load12] using this
end Go.Proofs.Ytpmlhmficmillaa
