/-
  No cell of these rows narrows 'for every input' (looked for: loops, veiled, ifaces, maps, wideKeys, modest, calm, conditions, laid).
  DERIVED. THE GIVEN ROWS OF THIS SEAT. 4 by the template 'for every input the law returns true; each argument reads behind the call as it read before'; 0 by the template 'total and deterministic' (their statements: YtkefjeabckainaaGreatTotals.lean).
  GIVEN WITH THE SEED: the statements are not yours to turn. If you find one false, say at which input.
  Laid BY PROGRAM, IN A SANDBOX (cutbox-rows.mjs): the forced cells as the released guide's own fill.sh prints them over the translation f4215f900daf80f4… (all of the seat's roots in one cut). By AI agents, Wed Nov 11 2026. No macro, syntax, notation, axiom, sorry.
-/
import Derived.Test.YtkefjeabckainaaGreatChecked
import GoSem.Claim
import GoSem.ClaimJoined
import GoSem.ClaimMapViews
import Derived.JoinedTies
import Derived.KernelRfl
namespace Go.Proofs.YtkefjeabckainaaGreat
/- THE CELL 'sum', in the pinned program and in every row, IS THE sha256 OF THE DUMP (.gsa) THAT YtkefjeabckainaaGreatProg.lean LOADS. Nothing in Lean hashes anything: it is a label: what it is worth is what the hold of that sum in a sandbox is worth. -/
noncomputable def Tryz.pinned : Pinned := { name := "ytkefjeabckainaagreat", sum := "f4215f900daf80f438edf4da2e2ba3368ad35fc6e1953d469c719d655f508789", checked := Tryz.checked }
namespace Rows
def none {H : Type} : Left H := { results := [], args := [] }

/-- 'loggialaw18.FilesGone': WHATEVER THE INPUT: true; the input reads as it did. -/
def filesGoneSpec : ChangeSpec := { name := "filesGone", fn := fun _ => fun
  | [d1, d2, d3] => { results := [.lit (.bool true)], args := [d1, d2, d3] }
  | _ => none }
def filesGoneRow : OpenClaim := { program := "ytkefjeabckainaagreat", sum := "f4215f900daf80f438edf4da2e2ba3368ad35fc6e1953d469c719d655f508789", func := "loggia/loggialaw18.FilesGone", spec := "filesGone", inPlace := ["internal/bytealg.IndexByteString", "internal/bytealg.IndexString", "slices.overlaps[loggia/node.Node]"], unfollowed := true, recurses := true, named := ["internal/bytealg.MaxLen"], apart := false }
def FilesGoneSaid : Prop := filesGoneRow.holds Tryz.pinned (OpenSpec.ofChange filesGoneSpec)

/-- ITS FALSE NEIGHBOUR: 'it returns false'. Refute it at one input. -/
def filesGoneWrong : ChangeSpec := { name := "filesGone", fn := fun _ => fun
  | [d1, d2, d3] => { results := [.lit (.bool false)], args := [d1, d2, d3] }
  | _ => none }
def FilesGoneWrongFalsely : Prop := filesGoneRow.holds Tryz.pinned (OpenSpec.ofChange filesGoneWrong)

/-- 'loggialaw18.FilesTold': WHATEVER THE INPUT: true; the input reads as it did. -/
def filesToldSpec : ChangeSpec := { name := "filesTold", fn := fun _ => fun
  | [d1, d2] => { results := [.lit (.bool true)], args := [d1, d2] }
  | _ => none }
def filesToldRow : OpenClaim := { program := "ytkefjeabckainaagreat", sum := "f4215f900daf80f438edf4da2e2ba3368ad35fc6e1953d469c719d655f508789", func := "loggia/loggialaw18.FilesTold", spec := "filesTold", inPlace := ["internal/bytealg.IndexByteString", "internal/bytealg.IndexString", "slices.overlaps[loggia/node.Node]"], unfollowed := true, recurses := true, named := ["internal/bytealg.MaxLen"], apart := false }
def FilesToldSaid : Prop := filesToldRow.holds Tryz.pinned (OpenSpec.ofChange filesToldSpec)

/-- ITS FALSE NEIGHBOUR: 'it returns false'. Refute it at one input. -/
def filesToldWrong : ChangeSpec := { name := "filesTold", fn := fun _ => fun
  | [d1, d2] => { results := [.lit (.bool false)], args := [d1, d2] }
  | _ => none }
def FilesToldWrongFalsely : Prop := filesToldRow.holds Tryz.pinned (OpenSpec.ofChange filesToldWrong)

/-- 'loggialaw18.FilesAlone': WHATEVER THE INPUT: true; the input reads as it did. -/
def filesAloneSpec : ChangeSpec := { name := "filesAlone", fn := fun _ => fun
  | [d] => { results := [.lit (.bool true)], args := [d] }
  | _ => none }
def filesAloneRow : OpenClaim := { program := "ytkefjeabckainaagreat", sum := "f4215f900daf80f438edf4da2e2ba3368ad35fc6e1953d469c719d655f508789", func := "loggia/loggialaw18.FilesAlone", spec := "filesAlone", inPlace := ["internal/bytealg.IndexByteString", "internal/bytealg.IndexString", "slices.overlaps[loggia/node.Node]"], unfollowed := true, recurses := true, named := ["internal/bytealg.MaxLen"], apart := false }
def FilesAloneSaid : Prop := filesAloneRow.holds Tryz.pinned (OpenSpec.ofChange filesAloneSpec)

/-- ITS FALSE NEIGHBOUR: 'it returns false'. Refute it at one input. -/
def filesAloneWrong : ChangeSpec := { name := "filesAlone", fn := fun _ => fun
  | [d] => { results := [.lit (.bool false)], args := [d] }
  | _ => none }
def FilesAloneWrongFalsely : Prop := filesAloneRow.holds Tryz.pinned (OpenSpec.ofChange filesAloneWrong)

/-- 'loggialaw18.FilesRefuse': WHATEVER THE INPUT: true; the input reads as it did. -/
def filesRefuseSpec : ChangeSpec := { name := "filesRefuse", fn := fun _ => fun
  | [d1, d2, d3] => { results := [.lit (.bool true)], args := [d1, d2, d3] }
  | _ => none }
def filesRefuseRow : OpenClaim := { program := "ytkefjeabckainaagreat", sum := "f4215f900daf80f438edf4da2e2ba3368ad35fc6e1953d469c719d655f508789", func := "loggia/loggialaw18.FilesRefuse", spec := "filesRefuse", inPlace := ["internal/bytealg.IndexByteString", "internal/bytealg.IndexString", "slices.overlaps[loggia/node.Node]"], unfollowed := true, recurses := true, named := ["internal/bytealg.MaxLen"], apart := false }
def FilesRefuseSaid : Prop := filesRefuseRow.holds Tryz.pinned (OpenSpec.ofChange filesRefuseSpec)

/-- ITS FALSE NEIGHBOUR: 'it returns false'. Refute it at one input. -/
def filesRefuseWrong : ChangeSpec := { name := "filesRefuse", fn := fun _ => fun
  | [d1, d2, d3] => { results := [.lit (.bool false)], args := [d1, d2, d3] }
  | _ => none }
def FilesRefuseWrongFalsely : Prop := filesRefuseRow.holds Tryz.pinned (OpenSpec.ofChange filesRefuseWrong)

/- THE SECOND FORM. 'bulk': how many values and letters a reading holds, each counted each time it is reached (what is shared counts as often as it is met; a slice's spare places count too). A statement '..UptoSaid' is the law's where the arguments, and the package variables that the reading takes, are together of bulk at most 1048576: NARROWER than '..Said'. Prove '..Said' where nothing that the law and all that it calls make is longer than what came in: it says more and counts as full. Else prove '..UptoSaid'. A law counts once. -/
mutual
def uptoBulk {H : Type} : DataW H → Nat
  | .lit (.string bytes) => bytes.length + 1
  | .lit _ => 1
  | .nil => 1
  | .ptr d => uptoBulk d + 1
  | .slice elems spare => uptoBulkAll elems + uptoBulkAll spare + 1
  | .agg parts => uptoBulkAll parts + 1
  | .iface _ d => uptoBulk d + 1
  | .map entries => uptoBulkEntries entries + 1
  | .held _ => 1
def uptoBulkAll {H : Type} : List (DataW H) → Nat
  | [] => 0
  | d :: r => uptoBulk d + uptoBulkAll r
def uptoBulkEntries {H : Type} : List (Lit × DataW H) → Nat
  | [] => 0
  | x :: r => uptoBulkEntry x + uptoBulkEntries r
def uptoBulkEntry {H : Type} : Lit × DataW H → Nat
  | (.string bytes, d) => bytes.length + uptoBulk d + 1
  | (_, d) => uptoBulk d + 1
 end
def uptoSmall : (H : Type) → List (DataW H) → Bool := fun _ ds => decide (uptoBulkAll ds ≤ 1048576)
def OpenSpec.upto (s : _root_.Go.ChangeSpec) : _root_.Go.OpenSpec := { _root_.Go.OpenSpec.ofChange s with cond := some uptoSmall }

/-- 'loggialaw18.FilesGone', WHERE WHAT IT READS IS OF BULK AT MOST 1048576: true; the input reads as it did. -/
def filesGoneUptoRow : OpenClaim := { program := "ytkefjeabckainaagreat", sum := "f4215f900daf80f438edf4da2e2ba3368ad35fc6e1953d469c719d655f508789", func := "loggia/loggialaw18.FilesGone", spec := "filesGone", inPlace := ["internal/bytealg.IndexByteString", "internal/bytealg.IndexString", "slices.overlaps[loggia/node.Node]"], unfollowed := true, recurses := true, named := ["internal/bytealg.MaxLen"], apart := false, narrowed := true }
def FilesGoneUptoSaid : Prop := filesGoneUptoRow.holds Tryz.pinned (OpenSpec.upto filesGoneSpec)

/-- 'loggialaw18.FilesTold', WHERE WHAT IT READS IS OF BULK AT MOST 1048576: true; the input reads as it did. -/
def filesToldUptoRow : OpenClaim := { program := "ytkefjeabckainaagreat", sum := "f4215f900daf80f438edf4da2e2ba3368ad35fc6e1953d469c719d655f508789", func := "loggia/loggialaw18.FilesTold", spec := "filesTold", inPlace := ["internal/bytealg.IndexByteString", "internal/bytealg.IndexString", "slices.overlaps[loggia/node.Node]"], unfollowed := true, recurses := true, named := ["internal/bytealg.MaxLen"], apart := false, narrowed := true }
def FilesToldUptoSaid : Prop := filesToldUptoRow.holds Tryz.pinned (OpenSpec.upto filesToldSpec)

/-- 'loggialaw18.FilesAlone', WHERE WHAT IT READS IS OF BULK AT MOST 1048576: true; the input reads as it did. -/
def filesAloneUptoRow : OpenClaim := { program := "ytkefjeabckainaagreat", sum := "f4215f900daf80f438edf4da2e2ba3368ad35fc6e1953d469c719d655f508789", func := "loggia/loggialaw18.FilesAlone", spec := "filesAlone", inPlace := ["internal/bytealg.IndexByteString", "internal/bytealg.IndexString", "slices.overlaps[loggia/node.Node]"], unfollowed := true, recurses := true, named := ["internal/bytealg.MaxLen"], apart := false, narrowed := true }
def FilesAloneUptoSaid : Prop := filesAloneUptoRow.holds Tryz.pinned (OpenSpec.upto filesAloneSpec)

/-- 'loggialaw18.FilesRefuse', WHERE WHAT IT READS IS OF BULK AT MOST 1048576: true; the input reads as it did. -/
def filesRefuseUptoRow : OpenClaim := { program := "ytkefjeabckainaagreat", sum := "f4215f900daf80f438edf4da2e2ba3368ad35fc6e1953d469c719d655f508789", func := "loggia/loggialaw18.FilesRefuse", spec := "filesRefuse", inPlace := ["internal/bytealg.IndexByteString", "internal/bytealg.IndexString", "slices.overlaps[loggia/node.Node]"], unfollowed := true, recurses := true, named := ["internal/bytealg.MaxLen"], apart := false, narrowed := true }
def FilesRefuseUptoSaid : Prop := filesRefuseUptoRow.holds Tryz.pinned (OpenSpec.upto filesRefuseSpec)

end Rows
end Go.Proofs.YtkefjeabckainaaGreat
