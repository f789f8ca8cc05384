/- A record equals itself, in the program's and in the reference's type. No condition. -/
import Derived.Test.YtpmlhmficmillaaBunC
import Derived.Laws.StructEq
namespace Go.Proofs.Ytpmlhmficmillaa
open Go.RowKit
set_option maxRecDepth 100000
theorem rst_self (s : Stat) (W : World) : (binOp .eql 74 (.agg s.cells) (.agg s.cells)).run Try.prog W = .ok (.bool true) W := by
  have h1 : Try.prog.underlying 74 = some (.struct (Try.prog.fieldsOf 74)) := by kernel_rfl
  have h2 : Try.prog.stoodInHeld 74 = false := by kernel_rfl
  have h4 : Try.prog.stoodInHeld 66 = false := by kernel_rfl
  have h5 := Try.underlying5
  have h6 := Try.underlying44
  have h7 := Try.underlying34
  have h8 := Try.underlying22
  have h9 := Try.underlying9
  rw [run_eql_struct, run_equalIn_agg W _ _ _ _ h1 h2]
  have g1 := Try.underlying74
  have g2 := Try.underlying66
  clear h1
  simp [go_sem, h4, h5, h6, h7, h8, h9, g1, g2, Stat.cells]

end Go.Proofs.Ytpmlhmficmillaa
