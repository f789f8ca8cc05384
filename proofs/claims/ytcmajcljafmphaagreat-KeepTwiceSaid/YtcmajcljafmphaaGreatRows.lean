/-
  No cell of these rows narrows 'for every input' (looked for: loops, veiled, ifaces, maps, wideKeys, modest, calm, conditions, laid).
  DERIVED. THE GIVEN ROWS OF THIS SEAT. 4 by the template 'for every input the law returns true; each argument reads behind the call as it read before'; 0 by the template 'total and deterministic' (their statements: YtcmajcljafmphaaGreatTotals.lean).
  GIVEN WITH THE SEED: the statements are not yours to turn. If you find one false, say at which input.
  Laid BY PROGRAM, IN A SANDBOX (cutbox-rows.mjs): the forced cells as the released guide's own fill.sh prints them over the translation cb7f83341c68b38b… (all of the seat's roots in one cut). By AI agents, Wed Nov 11 2026. No macro, syntax, notation, axiom, sorry.
-/
import Derived.Test.YtcmajcljafmphaaGreatChecked
import GoSem.Claim
import GoSem.ClaimJoined
import GoSem.ClaimMapViews
import Derived.JoinedTies
import Derived.KernelRfl
namespace Go.Proofs.YtcmajcljafmphaaGreat
/- THE CELL 'sum', in the pinned program and in every row, IS THE sha256 OF THE DUMP (.gsa) THAT YtcmajcljafmphaaGreatProg.lean LOADS. Nothing in Lean hashes anything: it is a label: what it is worth is what the hold of that sum in a sandbox is worth. -/
noncomputable def Tryz.pinned : Pinned := { name := "ytcmajcljafmphaagreat", sum := "cb7f83341c68b38b6b56591945c547c6950c02d6893d33a2595c5fbb6cd8d5b2", checked := Tryz.checked }
namespace Rows
def none {H : Type} : Left H := { results := [], args := [] }

/-- 'loggialaw19.KeepShapes': WHATEVER THE INPUT: true; the input reads as it did. -/
def keepShapesSpec : ChangeSpec := { name := "keepShapes", fn := fun _ => fun
  | [d1, d2] => { results := [.lit (.bool true)], args := [d1, d2] }
  | _ => none }
def keepShapesRow : OpenClaim := { program := "ytcmajcljafmphaagreat", sum := "cb7f83341c68b38b6b56591945c547c6950c02d6893d33a2595c5fbb6cd8d5b2", func := "loggia/loggialaw19.KeepShapes", spec := "keepShapes", inPlace := ["internal/bytealg.IndexByteString", "internal/bytealg.IndexString"], unfollowed := true, recurses := true, named := ["internal/bytealg.MaxLen"], plainKeys := false, apart := false }
def KeepShapesSaid : Prop := keepShapesRow.holds Tryz.pinned (OpenSpec.ofChange keepShapesSpec)

/-- ITS FALSE NEIGHBOUR: 'it returns false'. Refute it at one input. -/
def keepShapesWrong : ChangeSpec := { name := "keepShapes", fn := fun _ => fun
  | [d1, d2] => { results := [.lit (.bool false)], args := [d1, d2] }
  | _ => none }
def KeepShapesWrongFalsely : Prop := keepShapesRow.holds Tryz.pinned (OpenSpec.ofChange keepShapesWrong)

/-- 'loggialaw19.KeepTwice': WHATEVER THE INPUT: true; the input reads as it did. -/
def keepTwiceSpec : ChangeSpec := { name := "keepTwice", fn := fun _ => fun
  | [d1, d2, d3] => { results := [.lit (.bool true)], args := [d1, d2, d3] }
  | _ => none }
def keepTwiceRow : OpenClaim := { program := "ytcmajcljafmphaagreat", sum := "cb7f83341c68b38b6b56591945c547c6950c02d6893d33a2595c5fbb6cd8d5b2", func := "loggia/loggialaw19.KeepTwice", spec := "keepTwice", inPlace := ["internal/bytealg.IndexByteString", "internal/bytealg.IndexString"], unfollowed := true, recurses := true, named := ["internal/bytealg.MaxLen"], plainKeys := false, apart := false }
def KeepTwiceSaid : Prop := keepTwiceRow.holds Tryz.pinned (OpenSpec.ofChange keepTwiceSpec)

/-- ITS FALSE NEIGHBOUR: 'it returns false'. Refute it at one input. -/
def keepTwiceWrong : ChangeSpec := { name := "keepTwice", fn := fun _ => fun
  | [d1, d2, d3] => { results := [.lit (.bool false)], args := [d1, d2, d3] }
  | _ => none }
def KeepTwiceWrongFalsely : Prop := keepTwiceRow.holds Tryz.pinned (OpenSpec.ofChange keepTwiceWrong)

/-- 'loggialaw19.KeepCut': WHATEVER THE INPUT: true; the input reads as it did. -/
def keepCutSpec : ChangeSpec := { name := "keepCut", fn := fun _ => fun
  | [d1, d2, d3] => { results := [.lit (.bool true)], args := [d1, d2, d3] }
  | _ => none }
def keepCutRow : OpenClaim := { program := "ytcmajcljafmphaagreat", sum := "cb7f83341c68b38b6b56591945c547c6950c02d6893d33a2595c5fbb6cd8d5b2", func := "loggia/loggialaw19.KeepCut", spec := "keepCut", inPlace := ["internal/bytealg.IndexByteString", "internal/bytealg.IndexString"], unfollowed := true, recurses := true, named := ["internal/bytealg.MaxLen"], plainKeys := false, apart := false }
def KeepCutSaid : Prop := keepCutRow.holds Tryz.pinned (OpenSpec.ofChange keepCutSpec)

/-- ITS FALSE NEIGHBOUR: 'it returns false'. Refute it at one input. -/
def keepCutWrong : ChangeSpec := { name := "keepCut", fn := fun _ => fun
  | [d1, d2, d3] => { results := [.lit (.bool false)], args := [d1, d2, d3] }
  | _ => none }
def KeepCutWrongFalsely : Prop := keepCutRow.holds Tryz.pinned (OpenSpec.ofChange keepCutWrong)

/-- 'loggialaw19.KeepBytes': WHATEVER THE INPUT: true; the input reads as it did. -/
def keepBytesSpec : ChangeSpec := { name := "keepBytes", fn := fun _ => fun
  | [d1, d2] => { results := [.lit (.bool true)], args := [d1, d2] }
  | _ => none }
def keepBytesRow : OpenClaim := { program := "ytcmajcljafmphaagreat", sum := "cb7f83341c68b38b6b56591945c547c6950c02d6893d33a2595c5fbb6cd8d5b2", func := "loggia/loggialaw19.KeepBytes", spec := "keepBytes", inPlace := ["internal/bytealg.IndexByteString", "internal/bytealg.IndexString"], unfollowed := true, recurses := true, named := ["internal/bytealg.MaxLen"], plainKeys := false, apart := false }
def KeepBytesSaid : Prop := keepBytesRow.holds Tryz.pinned (OpenSpec.ofChange keepBytesSpec)

/-- ITS FALSE NEIGHBOUR: 'it returns false'. Refute it at one input. -/
def keepBytesWrong : ChangeSpec := { name := "keepBytes", fn := fun _ => fun
  | [d1, d2] => { results := [.lit (.bool false)], args := [d1, d2] }
  | _ => none }
def KeepBytesWrongFalsely : Prop := keepBytesRow.holds Tryz.pinned (OpenSpec.ofChange keepBytesWrong)

/- THE SECOND FORM. 'bulk': how many values and letters a reading holds, each counted each time it is reached (what is shared counts as often as it is met; a slice's spare places count too). A statement '..UptoSaid' is the law's where the arguments, and the package variables that the reading takes, are together of bulk at most 1048576: NARROWER than '..Said'. Prove '..Said' where nothing that the law and all that it calls make is longer than what came in: it says more and counts as full. Else prove '..UptoSaid'. A law counts once. -/
mutual
def uptoBulk {H : Type} : DataW H → Nat
  | .lit (.string bytes) => bytes.length + 1
  | .lit _ => 1
  | .nil => 1
  | .ptr d => uptoBulk d + 1
  | .slice elems spare => uptoBulkAll elems + uptoBulkAll spare + 1
  | .agg parts => uptoBulkAll parts + 1
  | .iface _ d => uptoBulk d + 1
  | .map entries => uptoBulkEntries entries + 1
  | .held _ => 1
def uptoBulkAll {H : Type} : List (DataW H) → Nat
  | [] => 0
  | d :: r => uptoBulk d + uptoBulkAll r
def uptoBulkEntries {H : Type} : List (Lit × DataW H) → Nat
  | [] => 0
  | x :: r => uptoBulkEntry x + uptoBulkEntries r
def uptoBulkEntry {H : Type} : Lit × DataW H → Nat
  | (.string bytes, d) => bytes.length + uptoBulk d + 1
  | (_, d) => uptoBulk d + 1
 end
def uptoSmall : (H : Type) → List (DataW H) → Bool := fun _ ds => decide (uptoBulkAll ds ≤ 1048576)
def OpenSpec.upto (s : _root_.Go.ChangeSpec) : _root_.Go.OpenSpec := { _root_.Go.OpenSpec.ofChange s with cond := some uptoSmall }

/-- 'loggialaw19.KeepShapes', WHERE WHAT IT READS IS OF BULK AT MOST 1048576: true; the input reads as it did. -/
def keepShapesUptoRow : OpenClaim := { program := "ytcmajcljafmphaagreat", sum := "cb7f83341c68b38b6b56591945c547c6950c02d6893d33a2595c5fbb6cd8d5b2", func := "loggia/loggialaw19.KeepShapes", spec := "keepShapes", inPlace := ["internal/bytealg.IndexByteString", "internal/bytealg.IndexString"], unfollowed := true, recurses := true, named := ["internal/bytealg.MaxLen"], plainKeys := false, apart := false, narrowed := true }
def KeepShapesUptoSaid : Prop := keepShapesUptoRow.holds Tryz.pinned (OpenSpec.upto keepShapesSpec)

/-- 'loggialaw19.KeepTwice', WHERE WHAT IT READS IS OF BULK AT MOST 1048576: true; the input reads as it did. -/
def keepTwiceUptoRow : OpenClaim := { program := "ytcmajcljafmphaagreat", sum := "cb7f83341c68b38b6b56591945c547c6950c02d6893d33a2595c5fbb6cd8d5b2", func := "loggia/loggialaw19.KeepTwice", spec := "keepTwice", inPlace := ["internal/bytealg.IndexByteString", "internal/bytealg.IndexString"], unfollowed := true, recurses := true, named := ["internal/bytealg.MaxLen"], plainKeys := false, apart := false, narrowed := true }
def KeepTwiceUptoSaid : Prop := keepTwiceUptoRow.holds Tryz.pinned (OpenSpec.upto keepTwiceSpec)

/-- 'loggialaw19.KeepCut', WHERE WHAT IT READS IS OF BULK AT MOST 1048576: true; the input reads as it did. -/
def keepCutUptoRow : OpenClaim := { program := "ytcmajcljafmphaagreat", sum := "cb7f83341c68b38b6b56591945c547c6950c02d6893d33a2595c5fbb6cd8d5b2", func := "loggia/loggialaw19.KeepCut", spec := "keepCut", inPlace := ["internal/bytealg.IndexByteString", "internal/bytealg.IndexString"], unfollowed := true, recurses := true, named := ["internal/bytealg.MaxLen"], plainKeys := false, apart := false, narrowed := true }
def KeepCutUptoSaid : Prop := keepCutUptoRow.holds Tryz.pinned (OpenSpec.upto keepCutSpec)

/-- 'loggialaw19.KeepBytes', WHERE WHAT IT READS IS OF BULK AT MOST 1048576: true; the input reads as it did. -/
def keepBytesUptoRow : OpenClaim := { program := "ytcmajcljafmphaagreat", sum := "cb7f83341c68b38b6b56591945c547c6950c02d6893d33a2595c5fbb6cd8d5b2", func := "loggia/loggialaw19.KeepBytes", spec := "keepBytes", inPlace := ["internal/bytealg.IndexByteString", "internal/bytealg.IndexString"], unfollowed := true, recurses := true, named := ["internal/bytealg.MaxLen"], plainKeys := false, apart := false, narrowed := true }
def KeepBytesUptoSaid : Prop := keepBytesUptoRow.holds Tryz.pinned (OpenSpec.upto keepBytesSpec)

end Rows
end Go.Proofs.YtcmajcljafmphaaGreat
