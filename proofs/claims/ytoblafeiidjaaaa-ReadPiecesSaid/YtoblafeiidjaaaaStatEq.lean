/- A record equals itself, in the program's and in the reference's type. No condition. -/
import Derived.Test.YtoblafeiidjaaaaStatD
import Derived.Laws.StructEq
namespace Go.Proofs.Ytoblafeiidjaaaa
open Go.RowKit
set_option maxRecDepth 100000

theorem st_self (s : Stat) (W : World) : (binOp .eql 37 (.agg s.cells) (.agg s.cells)).run Try.prog W = .ok (.bool true) W := by
  have h1 : Try.prog.underlying 37 = some (.struct (Try.prog.fieldsOf 37)) := by kernel_rfl
  have h2 : Try.prog.stoodInHeld 37 = false := by kernel_rfl
  have h4 : Try.prog.stoodInHeld 35 = false := by kernel_rfl
  have h5 := Try.underlying5
  have h6 := Try.underlying32
  have h7 := Try.underlying33
  have h8 := Try.underlying22
  have h9 := Try.underlying9
  rw [run_eql_struct, run_equalIn_agg W _ _ _ _ h1 h2]
  have g1 := Try.underlying37
  have g2 := Try.underlying35
  clear h1
  simp [go_sem, h4, h5, h6, h7, h8, h9, g1, g2, Stat.cells]

theorem rst_self (s : Stat) (W : World) : (binOp .eql 77 (.agg s.cells) (.agg s.cells)).run Try.prog W = .ok (.bool true) W := by
  have h1 : Try.prog.underlying 77 = some (.struct (Try.prog.fieldsOf 77)) := by kernel_rfl
  have h2 : Try.prog.stoodInHeld 77 = false := by kernel_rfl
  have h4 : Try.prog.stoodInHeld 75 = false := by kernel_rfl
  have h5 := Try.underlying5
  have h6 := Try.underlying32
  have h7 := Try.underlying33
  have h8 := Try.underlying22
  have h9 := Try.underlying9
  rw [run_eql_struct, run_equalIn_agg W _ _ _ _ h1 h2]
  have g1 := Try.underlying77
  have g2 := Try.underlying75
  clear h1
  simp [go_sem, h4, h5, h6, h7, h8, h9, g1, g2, Stat.cells]

theorem rst_neq (s : Stat) (W : World) : (binOp .neq 77 (.agg s.cells) (.agg s.cells)).run Try.prog W = .ok (.bool false) W := by
  have h1 : Try.prog.underlying 77 = some (.struct (Try.prog.fieldsOf 77)) := by kernel_rfl
  have h2 : Try.prog.stoodInHeld 77 = false := by kernel_rfl
  have h4 : Try.prog.stoodInHeld 75 = false := by kernel_rfl
  have h5 := Try.underlying5
  have h6 := Try.underlying32
  have h7 := Try.underlying33
  have h8 := Try.underlying22
  have h9 := Try.underlying9
  rw [run_neq_struct, run_equalIn_agg W _ _ _ _ h1 h2]
  have g1 := Try.underlying77
  have g2 := Try.underlying75
  clear h1
  simp [go_sem, h4, h5, h6, h7, h8, h9, g1, g2, Stat.cells]
end Go.Proofs.Ytoblafeiidjaaaa
