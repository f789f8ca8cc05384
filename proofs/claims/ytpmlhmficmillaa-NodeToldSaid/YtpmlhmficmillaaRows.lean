/-
  No cell of these rows narrows 'for every input' (looked for: loops, veiled, ifaces, maps, wideKeys, modest, calm, conditions, laid).
  DERIVED. THE GIVEN ROWS OF THIS SEAT. 5 by the template 'for every input the law returns true; each argument reads behind the call as it read before'; 0 by the template 'total and deterministic' (their statements: YtpmlhmficmillaaTotals.lean).
  GIVEN WITH THE SEED: the statements are not yours to turn. If you find one false, say at which input.
  Laid BY PROGRAM, IN A SANDBOX (cutbox-rows.mjs): the forced cells as the released guide's own fill.sh prints them over the translation c507ec9b82940a1d… (all of the seat's roots in one cut). By AI agents, Wed Nov 11 2026. No macro, syntax, notation, axiom, sorry.
-/
import Derived.Test.YtpmlhmficmillaaChecked
import GoSem.Claim
import GoSem.ClaimJoined
import GoSem.ClaimMapViews
import Derived.JoinedTies
import Derived.KernelRfl
namespace Go.Proofs.Ytpmlhmficmillaa
/- THE CELL 'sum', in the pinned program and in every row, IS THE sha256 OF THE DUMP (.gsa) THAT YtpmlhmficmillaaProg.lean LOADS. Nothing in Lean hashes anything: it is a label: what it is worth is what the hold of that sum in a sandbox is worth. -/
noncomputable def Try.pinned : Pinned := { name := "ytpmlhmficmillaa", sum := "c507ec9b82940a1d34156c3ad1b18663d25cc2e1c0d1cb2c560aa6c76c833661", checked := Try.checked }
namespace Rows
def none {H : Type} : Left H := { results := [], args := [] }

/-- 'loggialaw17.TreePlays': WHATEVER THE INPUT: true; the input reads as it did. -/
def treePlaysSpec : ChangeSpec := { name := "treePlays", fn := fun _ => fun
  | [d1, d2] => { results := [.lit (.bool true)], args := [d1, d2] }
  | _ => none }
def treePlaysRow : OpenClaim := { program := "ytpmlhmficmillaa", sum := "c507ec9b82940a1d34156c3ad1b18663d25cc2e1c0d1cb2c560aa6c76c833661", func := "loggia/loggialaw17.TreePlays", spec := "treePlays", inPlace := ["internal/bytealg.IndexByteString", "internal/bytealg.IndexString", "slices.overlaps[loggia/node.Node]"], unfollowed := true, recurses := true, named := ["internal/bytealg.MaxLen"], apart := false }
def TreePlaysSaid : Prop := treePlaysRow.holds Try.pinned (OpenSpec.ofChange treePlaysSpec)

/-- ITS FALSE NEIGHBOUR: 'it returns false'. Refute it at one input. -/
def treePlaysWrong : ChangeSpec := { name := "treePlays", fn := fun _ => fun
  | [d1, d2] => { results := [.lit (.bool false)], args := [d1, d2] }
  | _ => none }
def TreePlaysWrongFalsely : Prop := treePlaysRow.holds Try.pinned (OpenSpec.ofChange treePlaysWrong)

/-- 'loggialaw17.TreeWrites': WHATEVER THE INPUT: true; the input reads as it did. -/
def treeWritesSpec : ChangeSpec := { name := "treeWrites", fn := fun _ => fun
  | [d1, d2, d3, d4] => { results := [.lit (.bool true)], args := [d1, d2, d3, d4] }
  | _ => none }
def treeWritesRow : OpenClaim := { program := "ytpmlhmficmillaa", sum := "c507ec9b82940a1d34156c3ad1b18663d25cc2e1c0d1cb2c560aa6c76c833661", func := "loggia/loggialaw17.TreeWrites", spec := "treeWrites", inPlace := ["internal/bytealg.IndexByteString", "internal/bytealg.IndexString", "slices.overlaps[loggia/node.Node]"], unfollowed := true, recurses := true, named := ["internal/bytealg.MaxLen"], apart := false }
def TreeWritesSaid : Prop := treeWritesRow.holds Try.pinned (OpenSpec.ofChange treeWritesSpec)

/-- ITS FALSE NEIGHBOUR: 'it returns false'. Refute it at one input. -/
def treeWritesWrong : ChangeSpec := { name := "treeWrites", fn := fun _ => fun
  | [d1, d2, d3, d4] => { results := [.lit (.bool false)], args := [d1, d2, d3, d4] }
  | _ => none }
def TreeWritesWrongFalsely : Prop := treeWritesRow.holds Try.pinned (OpenSpec.ofChange treeWritesWrong)

/-- 'loggialaw17.TreeOthers': WHATEVER THE INPUT: true; the input reads as it did. -/
def treeOthersSpec : ChangeSpec := { name := "treeOthers", fn := fun _ => fun
  | [d1, d2] => { results := [.lit (.bool true)], args := [d1, d2] }
  | _ => none }
def treeOthersRow : OpenClaim := { program := "ytpmlhmficmillaa", sum := "c507ec9b82940a1d34156c3ad1b18663d25cc2e1c0d1cb2c560aa6c76c833661", func := "loggia/loggialaw17.TreeOthers", spec := "treeOthers", inPlace := ["internal/bytealg.IndexByteString", "internal/bytealg.IndexString", "slices.overlaps[loggia/node.Node]"], unfollowed := true, recurses := true, named := ["internal/bytealg.MaxLen"], apart := false }
def TreeOthersSaid : Prop := treeOthersRow.holds Try.pinned (OpenSpec.ofChange treeOthersSpec)

/-- ITS FALSE NEIGHBOUR: 'it returns false'. Refute it at one input. -/
def treeOthersWrong : ChangeSpec := { name := "treeOthers", fn := fun _ => fun
  | [d1, d2] => { results := [.lit (.bool false)], args := [d1, d2] }
  | _ => none }
def TreeOthersWrongFalsely : Prop := treeOthersRow.holds Try.pinned (OpenSpec.ofChange treeOthersWrong)

/-- 'loggialaw17.TreeNew': WHATEVER THE INPUT: true; the input reads as it did. -/
def treeNewSpec : ChangeSpec := { name := "treeNew", fn := fun _ => fun
  | [d1, d2] => { results := [.lit (.bool true)], args := [d1, d2] }
  | _ => none }
def treeNewRow : OpenClaim := { program := "ytpmlhmficmillaa", sum := "c507ec9b82940a1d34156c3ad1b18663d25cc2e1c0d1cb2c560aa6c76c833661", func := "loggia/loggialaw17.TreeNew", spec := "treeNew", inPlace := ["internal/bytealg.IndexByteString", "internal/bytealg.IndexString", "slices.overlaps[loggia/node.Node]"], unfollowed := true, recurses := true, named := ["internal/bytealg.MaxLen"], apart := false }
def TreeNewSaid : Prop := treeNewRow.holds Try.pinned (OpenSpec.ofChange treeNewSpec)

/-- ITS FALSE NEIGHBOUR: 'it returns false'. Refute it at one input. -/
def treeNewWrong : ChangeSpec := { name := "treeNew", fn := fun _ => fun
  | [d1, d2] => { results := [.lit (.bool false)], args := [d1, d2] }
  | _ => none }
def TreeNewWrongFalsely : Prop := treeNewRow.holds Try.pinned (OpenSpec.ofChange treeNewWrong)

/-- 'loggialaw14.NodeTold': WHATEVER THE INPUT: true; the input reads as it did. -/
def nodeToldSpec : ChangeSpec := { name := "nodeTold", fn := fun _ => fun
  | [d] => { results := [.lit (.bool true)], args := [d] }
  | _ => none }
def nodeToldRow : OpenClaim := { program := "ytpmlhmficmillaa", sum := "c507ec9b82940a1d34156c3ad1b18663d25cc2e1c0d1cb2c560aa6c76c833661", func := "loggia/loggialaw14.NodeTold", spec := "nodeTold", inPlace := ["slices.overlaps[loggia/node.Node]", "internal/bytealg.IndexByteString", "internal/bytealg.IndexString"], unfollowed := true, recurses := true, named := ["internal/bytealg.MaxLen"], apart := false }
def NodeToldSaid : Prop := nodeToldRow.holds Try.pinned (OpenSpec.ofChange nodeToldSpec)

/-- ITS FALSE NEIGHBOUR: 'it returns false'. Refute it at one input. -/
def nodeToldWrong : ChangeSpec := { name := "nodeTold", fn := fun _ => fun
  | [d] => { results := [.lit (.bool false)], args := [d] }
  | _ => none }
def NodeToldWrongFalsely : Prop := nodeToldRow.holds Try.pinned (OpenSpec.ofChange nodeToldWrong)

/- THE SECOND FORM. 'bulk': how many values and letters a reading holds, each counted each time it is reached (what is shared counts as often as it is met; a slice's spare places count too). A statement '..UptoSaid' is the law's where the arguments, and the package variables that the reading takes, are together of bulk at most 1048576: NARROWER than '..Said'. Prove '..Said' where nothing that the law and all that it calls make is longer than what came in: it says more and counts as full. Else prove '..UptoSaid'. A law counts once. -/
mutual
def uptoBulk {H : Type} : DataW H → Nat
  | .lit (.string bytes) => bytes.length + 1
  | .lit _ => 1
  | .nil => 1
  | .ptr d => uptoBulk d + 1
  | .slice elems spare => uptoBulkAll elems + uptoBulkAll spare + 1
  | .agg parts => uptoBulkAll parts + 1
  | .iface _ d => uptoBulk d + 1
  | .map entries => uptoBulkEntries entries + 1
  | .held _ => 1
def uptoBulkAll {H : Type} : List (DataW H) → Nat
  | [] => 0
  | d :: r => uptoBulk d + uptoBulkAll r
def uptoBulkEntries {H : Type} : List (Lit × DataW H) → Nat
  | [] => 0
  | x :: r => uptoBulkEntry x + uptoBulkEntries r
def uptoBulkEntry {H : Type} : Lit × DataW H → Nat
  | (.string bytes, d) => bytes.length + uptoBulk d + 1
  | (_, d) => uptoBulk d + 1
 end
def uptoSmall : (H : Type) → List (DataW H) → Bool := fun _ ds => decide (uptoBulkAll ds ≤ 1048576)
def OpenSpec.upto (s : _root_.Go.ChangeSpec) : _root_.Go.OpenSpec := { _root_.Go.OpenSpec.ofChange s with cond := some uptoSmall }

/-- 'loggialaw17.TreePlays', WHERE WHAT IT READS IS OF BULK AT MOST 1048576: true; the input reads as it did. -/
def treePlaysUptoRow : OpenClaim := { program := "ytpmlhmficmillaa", sum := "c507ec9b82940a1d34156c3ad1b18663d25cc2e1c0d1cb2c560aa6c76c833661", func := "loggia/loggialaw17.TreePlays", spec := "treePlays", inPlace := ["internal/bytealg.IndexByteString", "internal/bytealg.IndexString", "slices.overlaps[loggia/node.Node]"], unfollowed := true, recurses := true, named := ["internal/bytealg.MaxLen"], apart := false, narrowed := true }
def TreePlaysUptoSaid : Prop := treePlaysUptoRow.holds Try.pinned (OpenSpec.upto treePlaysSpec)

/-- 'loggialaw17.TreeWrites', WHERE WHAT IT READS IS OF BULK AT MOST 1048576: true; the input reads as it did. -/
def treeWritesUptoRow : OpenClaim := { program := "ytpmlhmficmillaa", sum := "c507ec9b82940a1d34156c3ad1b18663d25cc2e1c0d1cb2c560aa6c76c833661", func := "loggia/loggialaw17.TreeWrites", spec := "treeWrites", inPlace := ["internal/bytealg.IndexByteString", "internal/bytealg.IndexString", "slices.overlaps[loggia/node.Node]"], unfollowed := true, recurses := true, named := ["internal/bytealg.MaxLen"], apart := false, narrowed := true }
def TreeWritesUptoSaid : Prop := treeWritesUptoRow.holds Try.pinned (OpenSpec.upto treeWritesSpec)

/-- 'loggialaw17.TreeOthers', WHERE WHAT IT READS IS OF BULK AT MOST 1048576: true; the input reads as it did. -/
def treeOthersUptoRow : OpenClaim := { program := "ytpmlhmficmillaa", sum := "c507ec9b82940a1d34156c3ad1b18663d25cc2e1c0d1cb2c560aa6c76c833661", func := "loggia/loggialaw17.TreeOthers", spec := "treeOthers", inPlace := ["internal/bytealg.IndexByteString", "internal/bytealg.IndexString", "slices.overlaps[loggia/node.Node]"], unfollowed := true, recurses := true, named := ["internal/bytealg.MaxLen"], apart := false, narrowed := true }
def TreeOthersUptoSaid : Prop := treeOthersUptoRow.holds Try.pinned (OpenSpec.upto treeOthersSpec)

/-- 'loggialaw17.TreeNew', WHERE WHAT IT READS IS OF BULK AT MOST 1048576: true; the input reads as it did. -/
def treeNewUptoRow : OpenClaim := { program := "ytpmlhmficmillaa", sum := "c507ec9b82940a1d34156c3ad1b18663d25cc2e1c0d1cb2c560aa6c76c833661", func := "loggia/loggialaw17.TreeNew", spec := "treeNew", inPlace := ["internal/bytealg.IndexByteString", "internal/bytealg.IndexString", "slices.overlaps[loggia/node.Node]"], unfollowed := true, recurses := true, named := ["internal/bytealg.MaxLen"], apart := false, narrowed := true }
def TreeNewUptoSaid : Prop := treeNewUptoRow.holds Try.pinned (OpenSpec.upto treeNewSpec)

/-- 'loggialaw14.NodeTold', WHERE WHAT IT READS IS OF BULK AT MOST 1048576: true; the input reads as it did. -/
def nodeToldUptoRow : OpenClaim := { program := "ytpmlhmficmillaa", sum := "c507ec9b82940a1d34156c3ad1b18663d25cc2e1c0d1cb2c560aa6c76c833661", func := "loggia/loggialaw14.NodeTold", spec := "nodeTold", inPlace := ["slices.overlaps[loggia/node.Node]", "internal/bytealg.IndexByteString", "internal/bytealg.IndexString"], unfollowed := true, recurses := true, named := ["internal/bytealg.MaxLen"], apart := false, narrowed := true }
def NodeToldUptoSaid : Prop := nodeToldUptoRow.holds Try.pinned (OpenSpec.upto nodeToldSpec)

end Rows
end Go.Proofs.Ytpmlhmficmillaa
