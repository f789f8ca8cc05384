/- A message's bytes without their end are no message. Conditions: texts of at most a thousand bytes each. -/
import Derived.Test.YtlmojhlacfjmaaaGreatBunQ
namespace Go.Proofs.YtlmojhlacfjmaaaGreat
open Go.RowKit
set_option maxRecDepth 100000
set_option linter.unusedVariables false

def ext (z : List UInt8) (p : List UInt8 × Nat) : List UInt8 × Nat := (p.1 ++ z, p.2)
theorem rd_zero {n : Nat} {p : List UInt8 × Nat} (h : (rd n p).2 = 0) : p.2 = 0 ∧ n ≤ p.1.length := by
 unfold rd restE at h
 simp only at h
 split at h
 ·next h0 => exact absurd h h0
 ·next h0 =>
  split at h
  ·omega
  ·exact ⟨by simpa using h0, by omega⟩
theorem te_zero {p : List UInt8 × Nat} (h : te p = 0) : (rd 2 p).2 = 0 ∧ (rd (tv 2 p) (rd 2 p)).2 = 0 ∧ mayN (strL (rawL (tv 2 p) (rd 2 p).1 (rd 2 p).2)) = 0 := by
 have h2 : (rd (tv 2 p) (rd 2 p)).2 = 0 := by
  rcases Nat.eq_zero_or_pos (rd (tv 2 p) (rd 2 p)).2 with h0 | h0
  ·exact h0
  ·exfalso
   unfold te tkErr at h
   rw [if_pos (show restE (takeV 2 p.1 p.2) (restL 2 p.1 p.2) (restE 2 p.1 p.2) ≠ 0 from Nat.ne_of_gt h0)] at h
   exact absurd h (Nat.ne_of_gt h0)
 refine ⟨(rd_zero h2).1, h2, ?_⟩
 unfold te tkErr at h
 rw [if_neg (show ¬ restE (takeV 2 p.1 p.2) (restL 2 p.1 p.2) (restE 2 p.1 p.2) ≠ 0 from fun hn => hn h2)] at h
 exact h
end Go.Proofs.YtlmojhlacfjmaaaGreat
