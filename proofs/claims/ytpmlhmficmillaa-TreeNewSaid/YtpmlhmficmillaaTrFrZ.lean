/- The laws of layer 17 told as their frames need them: TreeNew, TreeWrites. Conditions: the arguments as they come in. -/
import Derived.Test.YtpmlhmficmillaaLawTrNZ
import Derived.Test.YtpmlhmficmillaaLawTrWZ
import Derived.Test.YtpmlhmficmillaaTrInZ
namespace Go.Proofs.Ytpmlhmficmillaa
open Go.RowKit
set_option maxRecDepth 100000

theorem law_TreeNewI (n : Int) (v : Value) (w : World) (hn : 0 ≤ n ∧ n ≤ 255) {zs : List Bool} (hv : RowW w 1 v zs.length (zs.map Value.bool)) :
    Calls Try.prog 6 #[.int .u8 n, v] w fun e w' => e = .returned (.bool true) ∧ Below w.heap.size w w' := by
  obtain ⟨m, rfl⟩ := Int.eq_ofNat_of_zero_le hn.1
  exact law_TreeNew m v zs w (by omega) hv
theorem law_TreeWritesI (a : ByteArray) (off : Int) (b : ByteArray) (add : Bool) (w : World) (hza : a.size ≤ maxLen) (hoff : 0 ≤ off ∧ off ≤ 65535) (hzb : b.size ≤ maxLen) :
    Calls Try.prog 4 #[.string a, .int .u16 off, .string b, .bool add] w fun e w' => e = .returned (.bool true) ∧ Below w.heap.size w w' := by
  obtain ⟨m, rfl⟩ := Int.eq_ofNat_of_zero_le hoff.1
  exact law_TreeWrites a m b add w (by omega) hza hzb
end Go.Proofs.Ytpmlhmficmillaa
