/- Law TreeBack. Conditions: the tree as it comes in. -/
import Derived.Test.YtpmlhmficmillaaGreatBunKn
import Derived.Test.YtpmlhmficmillaaGreatBunRD
import Derived.Test.YtpmlhmficmillaaGreatBunRN5
namespace Go.Proofs.YtpmlhmficmillaaGreat
open Go.RowKit
set_option maxRecDepth 100000
set_option linter.unusedVariables false

theorem rld_ntree {g : Nat} {u v : Value} {w : World} (h : w.heap[g]? = some (.cells #[u, v] 25 (0, 0))) : (loadVar 25 ⟨g, 0, none⟩).run Tryz.prog w = .ok (.agg #[u, v]) w := run_loadVar_row w g 25 25 #[u, v] (0, 0) _ h Tryz.underlying25 rfl (by kernel_rfl)
theorem nsame_is (v u : Value) (x : Nat) (l : List Nod) (w : World) (hv : NodsAt w v l) (hu : NodsAt w u l) (hl : l.length ≤ 1000) :
    Calls Tryz.prog 17 #[.agg #[.int .u64 (x : Int), v], .agg #[.int .u64 (x : Int), u]] w fun e w' => e = .returned (.bool true) ∧ Below w.heap.size w w' :=
  (nsame_any v u x x l l w hv hu hl hl).mono (by rintro e w' ⟨rfl, hb⟩; rw [eqL_iff.2 rfl]; exact ⟨by simp, hb⟩)
theorem rsame_is (v u : Value) (x : Nat) (l : List Nod) (w : World) (hv : NodsAt w v l) (hu : NodsAt w u l) (hl : l.length ≤ 1000) :
    Calls Tryz.prog 16 #[.agg #[.int .u64 (x : Int), v], .agg #[.int .u64 (x : Int), u]] w fun e w' => e = .returned (.bool true) ∧ Below w.heap.size w w' :=
  (rsame_any v u x x l l w hv hu hl hl).mono (by rintro e w' ⟨rfl, hb⟩; rw [eqL_iff.2 rfl]; exact ⟨by simp, hb⟩)
section
variable {o : Oper} {ev : Operand → Value} {w : World} {x y z : Operand}
theorem brun_pickt {c : Bool} {v : Value} (ho : o.op = .pick x y z) (hx : ev x = .bool c) (hc : c = true) (hy : ev y = v) : (execOp ev o).run Tryz.prog w = .ok (.value v) w := by
  subst hc
  simp [execOp, ho, hx, hy, go_sem]
end
end Go.Proofs.YtpmlhmficmillaaGreat
