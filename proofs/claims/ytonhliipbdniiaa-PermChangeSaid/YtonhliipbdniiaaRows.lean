/-
  No cell of these rows narrows 'for every input' (looked for: loops, veiled, ifaces, maps, wideKeys, modest, calm, conditions, laid).
  DERIVED. THE GIVEN ROWS OF THIS SEAT. 6 by the template 'for every input the law returns true; each argument reads behind the call as it read before'; 0 by the template 'total and deterministic' (their statements: YtonhliipbdniiaaTotals.lean).
  GIVEN WITH THE SEED: the statements are not yours to turn. If you find one false, say at which input.
  Laid BY PROGRAM, IN A SANDBOX (cutbox-rows.mjs): the forced cells as the released guide's own fill.sh prints them over the translation bc96b1f36aedfadf… (all of the seat's roots in one cut). By AI agents, Wed Nov 11 2026. No macro, syntax, notation, axiom, sorry.
-/
import Derived.Test.YtonhliipbdniiaaChecked
import GoSem.Claim
import GoSem.ClaimJoined
import GoSem.ClaimMapViews
import Derived.JoinedTies
import Derived.KernelRfl
namespace Go.Proofs.Ytonhliipbdniiaa
/- THE CELL 'sum', in the pinned program and in every row, IS THE sha256 OF THE DUMP (.gsa) THAT YtonhliipbdniiaaProg.lean LOADS. Nothing in Lean hashes anything: it is a label: what it is worth is what the hold of that sum in a sandbox is worth. -/
noncomputable def Try.pinned : Pinned := { name := "ytonhliipbdniiaa", sum := "bc96b1f36aedfadf5c28760a7eccab7634be74a4913b0868374305354da7b4fb", checked := Try.checked }
namespace Rows
def none {H : Type} : Left H := { results := [], args := [] }

/-- 'loggialaw16.PermMay': WHATEVER THE INPUT: true; the input reads as it did. -/
def permMaySpec : ChangeSpec := { name := "permMay", fn := fun _ => fun
  | [d1, d2, d3, d4, d5, d6] => { results := [.lit (.bool true)], args := [d1, d2, d3, d4, d5, d6] }
  | _ => none }
def permMayRow : OpenClaim := { program := "ytonhliipbdniiaa", sum := "bc96b1f36aedfadf5c28760a7eccab7634be74a4913b0868374305354da7b4fb", func := "loggia/loggialaw16.PermMay", spec := "permMay", inPlace := ["internal/bytealg.IndexByteString", "internal/bytealg.IndexString"], unfollowed := true, recurses := true, named := ["internal/bytealg.MaxLen"], apart := false }
def PermMaySaid : Prop := permMayRow.holds Try.pinned (OpenSpec.ofChange permMaySpec)

/-- ITS FALSE NEIGHBOUR: 'it returns false'. Refute it at one input. -/
def permMayWrong : ChangeSpec := { name := "permMay", fn := fun _ => fun
  | [d1, d2, d3, d4, d5, d6] => { results := [.lit (.bool false)], args := [d1, d2, d3, d4, d5, d6] }
  | _ => none }
def PermMayWrongFalsely : Prop := permMayRow.holds Try.pinned (OpenSpec.ofChange permMayWrong)

/-- 'loggialaw16.PermChange': WHATEVER THE INPUT: true; the input reads as it did. -/
def permChangeSpec : ChangeSpec := { name := "permChange", fn := fun _ => fun
  | [d1, d2, d3, d4, d5] => { results := [.lit (.bool true)], args := [d1, d2, d3, d4, d5] }
  | _ => none }
def permChangeRow : OpenClaim := { program := "ytonhliipbdniiaa", sum := "bc96b1f36aedfadf5c28760a7eccab7634be74a4913b0868374305354da7b4fb", func := "loggia/loggialaw16.PermChange", spec := "permChange", inPlace := ["internal/bytealg.IndexByteString", "internal/bytealg.IndexString"], unfollowed := true, recurses := true, named := ["internal/bytealg.MaxLen"], apart := false }
def PermChangeSaid : Prop := permChangeRow.holds Try.pinned (OpenSpec.ofChange permChangeSpec)

/-- ITS FALSE NEIGHBOUR: 'it returns false'. Refute it at one input. -/
def permChangeWrong : ChangeSpec := { name := "permChange", fn := fun _ => fun
  | [d1, d2, d3, d4, d5] => { results := [.lit (.bool false)], args := [d1, d2, d3, d4, d5] }
  | _ => none }
def PermChangeWrongFalsely : Prop := permChangeRow.holds Try.pinned (OpenSpec.ofChange permChangeWrong)

/-- 'loggialaw16.PermMore': WHATEVER THE INPUT: true; the input reads as it did. -/
def permMoreSpec : ChangeSpec := { name := "permMore", fn := fun _ => fun
  | [d1, d2, d3, d4, d5] => { results := [.lit (.bool true)], args := [d1, d2, d3, d4, d5] }
  | _ => none }
def permMoreRow : OpenClaim := { program := "ytonhliipbdniiaa", sum := "bc96b1f36aedfadf5c28760a7eccab7634be74a4913b0868374305354da7b4fb", func := "loggia/loggialaw16.PermMore", spec := "permMore", inPlace := ["internal/bytealg.IndexByteString", "internal/bytealg.IndexString"], unfollowed := true, recurses := true, named := ["internal/bytealg.MaxLen"], apart := false }
def PermMoreSaid : Prop := permMoreRow.holds Try.pinned (OpenSpec.ofChange permMoreSpec)

/-- ITS FALSE NEIGHBOUR: 'it returns false'. Refute it at one input. -/
def permMoreWrong : ChangeSpec := { name := "permMore", fn := fun _ => fun
  | [d1, d2, d3, d4, d5] => { results := [.lit (.bool false)], args := [d1, d2, d3, d4, d5] }
  | _ => none }
def PermMoreWrongFalsely : Prop := permMoreRow.holds Try.pinned (OpenSpec.ofChange permMoreWrong)

/-- 'loggialaw5.MsgKinds': WHATEVER THE INPUT: true; the input reads as it did. -/
def msgKindsSpec : ChangeSpec := { name := "msgKinds", fn := fun _ => fun
  | [d1, d2, d3] => { results := [.lit (.bool true)], args := [d1, d2, d3] }
  | _ => none }
def msgKindsRow : OpenClaim := { program := "ytonhliipbdniiaa", sum := "bc96b1f36aedfadf5c28760a7eccab7634be74a4913b0868374305354da7b4fb", func := "loggia/loggialaw5.MsgKinds", spec := "msgKinds", unfollowed := true, recurses := true, apart := false }
def MsgKindsSaid : Prop := msgKindsRow.holds Try.pinned (OpenSpec.ofChange msgKindsSpec)

/-- ITS FALSE NEIGHBOUR: 'it returns false'. Refute it at one input. -/
def msgKindsWrong : ChangeSpec := { name := "msgKinds", fn := fun _ => fun
  | [d1, d2, d3] => { results := [.lit (.bool false)], args := [d1, d2, d3] }
  | _ => none }
def MsgKindsWrongFalsely : Prop := msgKindsRow.holds Try.pinned (OpenSpec.ofChange msgKindsWrong)

/-- 'loggialaw5.MsgCuts': WHATEVER THE INPUT: true; the input reads as it did. -/
def msgCutsSpec : ChangeSpec := { name := "msgCuts", fn := fun _ => fun
  | [d1, d2, d3] => { results := [.lit (.bool true)], args := [d1, d2, d3] }
  | _ => none }
def msgCutsRow : OpenClaim := { program := "ytonhliipbdniiaa", sum := "bc96b1f36aedfadf5c28760a7eccab7634be74a4913b0868374305354da7b4fb", func := "loggia/loggialaw5.MsgCuts", spec := "msgCuts", unfollowed := true, recurses := true, apart := false }
def MsgCutsSaid : Prop := msgCutsRow.holds Try.pinned (OpenSpec.ofChange msgCutsSpec)

/-- ITS FALSE NEIGHBOUR: 'it returns false'. Refute it at one input. -/
def msgCutsWrong : ChangeSpec := { name := "msgCuts", fn := fun _ => fun
  | [d1, d2, d3] => { results := [.lit (.bool false)], args := [d1, d2, d3] }
  | _ => none }
def MsgCutsWrongFalsely : Prop := msgCutsRow.holds Try.pinned (OpenSpec.ofChange msgCutsWrong)

/-- 'loggialaw5.MsgNames': WHATEVER THE INPUT: true; the input reads as it did. -/
def msgNamesSpec : ChangeSpec := { name := "msgNames", fn := fun _ => fun
  | [d] => { results := [.lit (.bool true)], args := [d] }
  | _ => none }
def msgNamesRow : OpenClaim := { program := "ytonhliipbdniiaa", sum := "bc96b1f36aedfadf5c28760a7eccab7634be74a4913b0868374305354da7b4fb", func := "loggia/loggialaw5.MsgNames", spec := "msgNames", unfollowed := true, recurses := true, apart := false }
def MsgNamesSaid : Prop := msgNamesRow.holds Try.pinned (OpenSpec.ofChange msgNamesSpec)

/-- ITS FALSE NEIGHBOUR: 'it returns false'. Refute it at one input. -/
def msgNamesWrong : ChangeSpec := { name := "msgNames", fn := fun _ => fun
  | [d] => { results := [.lit (.bool false)], args := [d] }
  | _ => none }
def MsgNamesWrongFalsely : Prop := msgNamesRow.holds Try.pinned (OpenSpec.ofChange msgNamesWrong)

/- THE SECOND FORM. 'bulk': how many values and letters a reading holds, each counted each time it is reached (what is shared counts as often as it is met; a slice's spare places count too). A statement '..UptoSaid' is the law's where the arguments, and the package variables that the reading takes, are together of bulk at most 1048576: NARROWER than '..Said'. Prove '..Said' where nothing that the law and all that it calls make is longer than what came in: it says more and counts as full. Else prove '..UptoSaid'. A law counts once. -/
mutual
def uptoBulk {H : Type} : DataW H → Nat
  | .lit (.string bytes) => bytes.length + 1
  | .lit _ => 1
  | .nil => 1
  | .ptr d => uptoBulk d + 1
  | .slice elems spare => uptoBulkAll elems + uptoBulkAll spare + 1
  | .agg parts => uptoBulkAll parts + 1
  | .iface _ d => uptoBulk d + 1
  | .map entries => uptoBulkEntries entries + 1
  | .held _ => 1
def uptoBulkAll {H : Type} : List (DataW H) → Nat
  | [] => 0
  | d :: r => uptoBulk d + uptoBulkAll r
def uptoBulkEntries {H : Type} : List (Lit × DataW H) → Nat
  | [] => 0
  | x :: r => uptoBulkEntry x + uptoBulkEntries r
def uptoBulkEntry {H : Type} : Lit × DataW H → Nat
  | (.string bytes, d) => bytes.length + uptoBulk d + 1
  | (_, d) => uptoBulk d + 1
 end
def uptoSmall : (H : Type) → List (DataW H) → Bool := fun _ ds => decide (uptoBulkAll ds ≤ 1048576)
def OpenSpec.upto (s : _root_.Go.ChangeSpec) : _root_.Go.OpenSpec := { _root_.Go.OpenSpec.ofChange s with cond := some uptoSmall }

/-- 'loggialaw16.PermMay', WHERE WHAT IT READS IS OF BULK AT MOST 1048576: true; the input reads as it did. -/
def permMayUptoRow : OpenClaim := { program := "ytonhliipbdniiaa", sum := "bc96b1f36aedfadf5c28760a7eccab7634be74a4913b0868374305354da7b4fb", func := "loggia/loggialaw16.PermMay", spec := "permMay", inPlace := ["internal/bytealg.IndexByteString", "internal/bytealg.IndexString"], unfollowed := true, recurses := true, named := ["internal/bytealg.MaxLen"], apart := false, narrowed := true }
def PermMayUptoSaid : Prop := permMayUptoRow.holds Try.pinned (OpenSpec.upto permMaySpec)

/-- 'loggialaw16.PermChange', WHERE WHAT IT READS IS OF BULK AT MOST 1048576: true; the input reads as it did. -/
def permChangeUptoRow : OpenClaim := { program := "ytonhliipbdniiaa", sum := "bc96b1f36aedfadf5c28760a7eccab7634be74a4913b0868374305354da7b4fb", func := "loggia/loggialaw16.PermChange", spec := "permChange", inPlace := ["internal/bytealg.IndexByteString", "internal/bytealg.IndexString"], unfollowed := true, recurses := true, named := ["internal/bytealg.MaxLen"], apart := false, narrowed := true }
def PermChangeUptoSaid : Prop := permChangeUptoRow.holds Try.pinned (OpenSpec.upto permChangeSpec)

/-- 'loggialaw16.PermMore', WHERE WHAT IT READS IS OF BULK AT MOST 1048576: true; the input reads as it did. -/
def permMoreUptoRow : OpenClaim := { program := "ytonhliipbdniiaa", sum := "bc96b1f36aedfadf5c28760a7eccab7634be74a4913b0868374305354da7b4fb", func := "loggia/loggialaw16.PermMore", spec := "permMore", inPlace := ["internal/bytealg.IndexByteString", "internal/bytealg.IndexString"], unfollowed := true, recurses := true, named := ["internal/bytealg.MaxLen"], apart := false, narrowed := true }
def PermMoreUptoSaid : Prop := permMoreUptoRow.holds Try.pinned (OpenSpec.upto permMoreSpec)

/-- 'loggialaw5.MsgKinds', WHERE WHAT IT READS IS OF BULK AT MOST 1048576: true; the input reads as it did. -/
def msgKindsUptoRow : OpenClaim := { program := "ytonhliipbdniiaa", sum := "bc96b1f36aedfadf5c28760a7eccab7634be74a4913b0868374305354da7b4fb", func := "loggia/loggialaw5.MsgKinds", spec := "msgKinds", unfollowed := true, recurses := true, apart := false, narrowed := true }
def MsgKindsUptoSaid : Prop := msgKindsUptoRow.holds Try.pinned (OpenSpec.upto msgKindsSpec)

/-- 'loggialaw5.MsgCuts', WHERE WHAT IT READS IS OF BULK AT MOST 1048576: true; the input reads as it did. -/
def msgCutsUptoRow : OpenClaim := { program := "ytonhliipbdniiaa", sum := "bc96b1f36aedfadf5c28760a7eccab7634be74a4913b0868374305354da7b4fb", func := "loggia/loggialaw5.MsgCuts", spec := "msgCuts", unfollowed := true, recurses := true, apart := false, narrowed := true }
def MsgCutsUptoSaid : Prop := msgCutsUptoRow.holds Try.pinned (OpenSpec.upto msgCutsSpec)

/-- 'loggialaw5.MsgNames', WHERE WHAT IT READS IS OF BULK AT MOST 1048576: true; the input reads as it did. -/
def msgNamesUptoRow : OpenClaim := { program := "ytonhliipbdniiaa", sum := "bc96b1f36aedfadf5c28760a7eccab7634be74a4913b0868374305354da7b4fb", func := "loggia/loggialaw5.MsgNames", spec := "msgNames", unfollowed := true, recurses := true, apart := false, narrowed := true }
def MsgNamesUptoSaid : Prop := msgNamesUptoRow.holds Try.pinned (OpenSpec.upto msgNamesSpec)

end Rows
end Go.Proofs.Ytonhliipbdniiaa
