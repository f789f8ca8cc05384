/-
  No cell of these rows narrows 'for every input' (looked for: loops, veiled, ifaces, maps, wideKeys, modest, calm, conditions, laid).
  DERIVED. THE GIVEN ROWS OF THIS SEAT. 10 by the template 'for every input the law returns true; each argument reads behind the call as it read before'; 0 by the template 'total and deterministic' (their statements: YtoblafeiidjaaaaTotals.lean).
  GIVEN WITH THE SEED: the statements are not yours to turn. If you find one false, say at which input.
  Laid BY PROGRAM, IN A SANDBOX (cutbox-rows.mjs): the forced cells as the released guide's own fill.sh prints them over the translation 2f8fd4b89d76936c… (all of the seat's roots in one cut). By AI agents, Wed Nov 11 2026. No macro, syntax, notation, axiom, sorry.
-/
import Derived.Test.YtoblafeiidjaaaaChecked
import GoSem.Claim
import GoSem.ClaimJoined
import GoSem.ClaimMapViews
import Derived.JoinedTies
import Derived.KernelRfl
namespace Go.Proofs.Ytoblafeiidjaaaa
/- THE CELL 'sum', in the pinned program and in every row, IS THE sha256 OF THE DUMP (.gsa) THAT YtoblafeiidjaaaaProg.lean LOADS. Nothing in Lean hashes anything: it is a label: what it is worth is what the hold of that sum in a sandbox is worth. -/
noncomputable def Try.pinned : Pinned := { name := "ytoblafeiidjaaaa", sum := "2f8fd4b89d76936cd8768199d5f0bbc31261a733623304bf79e64acd56eddba6", checked := Try.checked }
namespace Rows
def none {H : Type} : Left H := { results := [], args := [] }

/-- 'loggialaw22.ReadAsks': WHATEVER THE INPUT: true; the input reads as it did. -/
def readAsksSpec : ChangeSpec := { name := "readAsks", fn := fun _ => fun
  | [d1, d2] => { results := [.lit (.bool true)], args := [d1, d2] }
  | _ => none }
def readAsksRow : OpenClaim := { program := "ytoblafeiidjaaaa", sum := "2f8fd4b89d76936cd8768199d5f0bbc31261a733623304bf79e64acd56eddba6", func := "loggia/loggialaw22.ReadAsks", spec := "readAsks", inPlace := ["internal/bytealg.IndexByteString", "internal/bytealg.IndexString"], unfollowed := true, recurses := true, named := ["internal/bytealg.MaxLen"], apart := false }
def ReadAsksSaid : Prop := readAsksRow.holds Try.pinned (OpenSpec.ofChange readAsksSpec)

/-- ITS FALSE NEIGHBOUR: 'it returns false'. Refute it at one input. -/
def readAsksWrong : ChangeSpec := { name := "readAsks", fn := fun _ => fun
  | [d1, d2] => { results := [.lit (.bool false)], args := [d1, d2] }
  | _ => none }
def ReadAsksWrongFalsely : Prop := readAsksRow.holds Try.pinned (OpenSpec.ofChange readAsksWrong)

/-- 'loggialaw22.ReadOne': WHATEVER THE INPUT: true; the input reads as it did. -/
def readOneSpec : ChangeSpec := { name := "readOne", fn := fun _ => fun
  | [d1, d2] => { results := [.lit (.bool true)], args := [d1, d2] }
  | _ => none }
def readOneRow : OpenClaim := { program := "ytoblafeiidjaaaa", sum := "2f8fd4b89d76936cd8768199d5f0bbc31261a733623304bf79e64acd56eddba6", func := "loggia/loggialaw22.ReadOne", spec := "readOne", inPlace := ["internal/bytealg.IndexByteString", "internal/bytealg.IndexString"], unfollowed := true, recurses := true, named := ["internal/bytealg.MaxLen"], apart := false }
def ReadOneSaid : Prop := readOneRow.holds Try.pinned (OpenSpec.ofChange readOneSpec)

/-- ITS FALSE NEIGHBOUR: 'it returns false'. Refute it at one input. -/
def readOneWrong : ChangeSpec := { name := "readOne", fn := fun _ => fun
  | [d1, d2] => { results := [.lit (.bool false)], args := [d1, d2] }
  | _ => none }
def ReadOneWrongFalsely : Prop := readOneRow.holds Try.pinned (OpenSpec.ofChange readOneWrong)

/-- 'loggialaw22.ReadPieces': WHATEVER THE INPUT: true; the input reads as it did. -/
def readPiecesSpec : ChangeSpec := { name := "readPieces", fn := fun _ => fun
  | [d1, d2] => { results := [.lit (.bool true)], args := [d1, d2] }
  | _ => none }
def readPiecesRow : OpenClaim := { program := "ytoblafeiidjaaaa", sum := "2f8fd4b89d76936cd8768199d5f0bbc31261a733623304bf79e64acd56eddba6", func := "loggia/loggialaw22.ReadPieces", spec := "readPieces", inPlace := ["internal/bytealg.IndexByteString", "internal/bytealg.IndexString"], unfollowed := true, recurses := true, named := ["internal/bytealg.MaxLen"], apart := false }
def ReadPiecesSaid : Prop := readPiecesRow.holds Try.pinned (OpenSpec.ofChange readPiecesSpec)

/-- ITS FALSE NEIGHBOUR: 'it returns false'. Refute it at one input. -/
def readPiecesWrong : ChangeSpec := { name := "readPieces", fn := fun _ => fun
  | [d1, d2] => { results := [.lit (.bool false)], args := [d1, d2] }
  | _ => none }
def ReadPiecesWrongFalsely : Prop := readPiecesRow.holds Try.pinned (OpenSpec.ofChange readPiecesWrong)

/-- 'loggialaw2.TextAny': WHATEVER THE INPUT: true; the input reads as it did. -/
def textAnySpec : ChangeSpec := { name := "textAny", fn := fun _ => fun
  | [d] => { results := [.lit (.bool true)], args := [d] }
  | _ => none }
def textAnyRow : OpenClaim := { program := "ytoblafeiidjaaaa", sum := "2f8fd4b89d76936cd8768199d5f0bbc31261a733623304bf79e64acd56eddba6", func := "loggia/loggialaw2.TextAny", spec := "textAny", inPlace := ["internal/bytealg.IndexByteString", "internal/bytealg.IndexString"], unfollowed := true, recurses := true, named := ["internal/bytealg.MaxLen"], apart := false }
def TextAnySaid : Prop := textAnyRow.holds Try.pinned (OpenSpec.ofChange textAnySpec)

/-- ITS FALSE NEIGHBOUR: 'it returns false'. Refute it at one input. -/
def textAnyWrong : ChangeSpec := { name := "textAny", fn := fun _ => fun
  | [d] => { results := [.lit (.bool false)], args := [d] }
  | _ => none }
def TextAnyWrongFalsely : Prop := textAnyRow.holds Try.pinned (OpenSpec.ofChange textAnyWrong)

/-- 'loggialaw2.TextBack': WHATEVER THE INPUT: true; the input reads as it did. -/
def textBackSpec : ChangeSpec := { name := "textBack", fn := fun _ => fun
  | [d] => { results := [.lit (.bool true)], args := [d] }
  | _ => none }
def textBackRow : OpenClaim := { program := "ytoblafeiidjaaaa", sum := "2f8fd4b89d76936cd8768199d5f0bbc31261a733623304bf79e64acd56eddba6", func := "loggia/loggialaw2.TextBack", spec := "textBack", inPlace := ["internal/bytealg.IndexByteString", "internal/bytealg.IndexString"], unfollowed := true, recurses := true, named := ["internal/bytealg.MaxLen"], apart := false }
def TextBackSaid : Prop := textBackRow.holds Try.pinned (OpenSpec.ofChange textBackSpec)

/-- ITS FALSE NEIGHBOUR: 'it returns false'. Refute it at one input. -/
def textBackWrong : ChangeSpec := { name := "textBack", fn := fun _ => fun
  | [d] => { results := [.lit (.bool false)], args := [d] }
  | _ => none }
def TextBackWrongFalsely : Prop := textBackRow.holds Try.pinned (OpenSpec.ofChange textBackWrong)

/-- 'loggialaw2.TextPairs': WHATEVER THE INPUT: true; the input reads as it did. -/
def textPairsSpec : ChangeSpec := { name := "textPairs", fn := fun _ => fun
  | [d1, d2, d3] => { results := [.lit (.bool true)], args := [d1, d2, d3] }
  | _ => none }
def textPairsRow : OpenClaim := { program := "ytoblafeiidjaaaa", sum := "2f8fd4b89d76936cd8768199d5f0bbc31261a733623304bf79e64acd56eddba6", func := "loggia/loggialaw2.TextPairs", spec := "textPairs", inPlace := ["internal/bytealg.IndexByteString", "internal/bytealg.IndexString"], unfollowed := true, recurses := true, named := ["internal/bytealg.MaxLen"], apart := false }
def TextPairsSaid : Prop := textPairsRow.holds Try.pinned (OpenSpec.ofChange textPairsSpec)

/-- ITS FALSE NEIGHBOUR: 'it returns false'. Refute it at one input. -/
def textPairsWrong : ChangeSpec := { name := "textPairs", fn := fun _ => fun
  | [d1, d2, d3] => { results := [.lit (.bool false)], args := [d1, d2, d3] }
  | _ => none }
def TextPairsWrongFalsely : Prop := textPairsRow.holds Try.pinned (OpenSpec.ofChange textPairsWrong)

/-- 'loggialaw2.TextBytes': WHATEVER THE INPUT: true; the input reads as it did. -/
def textBytesSpec : ChangeSpec := { name := "textBytes", fn := fun _ => fun
  | [d] => { results := [.lit (.bool true)], args := [d] }
  | _ => none }
def textBytesRow : OpenClaim := { program := "ytoblafeiidjaaaa", sum := "2f8fd4b89d76936cd8768199d5f0bbc31261a733623304bf79e64acd56eddba6", func := "loggia/loggialaw2.TextBytes", spec := "textBytes", inPlace := ["internal/bytealg.IndexByteString", "internal/bytealg.IndexString"], unfollowed := true, recurses := true, named := ["internal/bytealg.MaxLen"], apart := false }
def TextBytesSaid : Prop := textBytesRow.holds Try.pinned (OpenSpec.ofChange textBytesSpec)

/-- ITS FALSE NEIGHBOUR: 'it returns false'. Refute it at one input. -/
def textBytesWrong : ChangeSpec := { name := "textBytes", fn := fun _ => fun
  | [d] => { results := [.lit (.bool false)], args := [d] }
  | _ => none }
def TextBytesWrongFalsely : Prop := textBytesRow.holds Try.pinned (OpenSpec.ofChange textBytesWrong)

/-- 'loggialaw4.StatBack': WHATEVER THE INPUT: true; the input reads as it did. -/
def statBackSpec : ChangeSpec := { name := "statBack", fn := fun _ => fun
  | [d] => { results := [.lit (.bool true)], args := [d] }
  | _ => none }
def statBackRow : OpenClaim := { program := "ytoblafeiidjaaaa", sum := "2f8fd4b89d76936cd8768199d5f0bbc31261a733623304bf79e64acd56eddba6", func := "loggia/loggialaw4.StatBack", spec := "statBack", inPlace := ["internal/bytealg.IndexByteString", "internal/bytealg.IndexString"], unfollowed := true, recurses := true, named := ["internal/bytealg.MaxLen"], apart := false }
def StatBackSaid : Prop := statBackRow.holds Try.pinned (OpenSpec.ofChange statBackSpec)

/-- ITS FALSE NEIGHBOUR: 'it returns false'. Refute it at one input. -/
def statBackWrong : ChangeSpec := { name := "statBack", fn := fun _ => fun
  | [d] => { results := [.lit (.bool false)], args := [d] }
  | _ => none }
def StatBackWrongFalsely : Prop := statBackRow.holds Try.pinned (OpenSpec.ofChange statBackWrong)

/-- 'loggialaw4.StatBytes': WHATEVER THE INPUT: true; the input reads as it did. -/
def statBytesSpec : ChangeSpec := { name := "statBytes", fn := fun _ => fun
  | [d] => { results := [.lit (.bool true)], args := [d] }
  | _ => none }
def statBytesRow : OpenClaim := { program := "ytoblafeiidjaaaa", sum := "2f8fd4b89d76936cd8768199d5f0bbc31261a733623304bf79e64acd56eddba6", func := "loggia/loggialaw4.StatBytes", spec := "statBytes", inPlace := ["internal/bytealg.IndexByteString", "internal/bytealg.IndexString"], unfollowed := true, recurses := true, named := ["internal/bytealg.MaxLen"], apart := false }
def StatBytesSaid : Prop := statBytesRow.holds Try.pinned (OpenSpec.ofChange statBytesSpec)

/-- ITS FALSE NEIGHBOUR: 'it returns false'. Refute it at one input. -/
def statBytesWrong : ChangeSpec := { name := "statBytes", fn := fun _ => fun
  | [d] => { results := [.lit (.bool false)], args := [d] }
  | _ => none }
def StatBytesWrongFalsely : Prop := statBytesRow.holds Try.pinned (OpenSpec.ofChange statBytesWrong)

/-- 'loggialaw4.StatCut': WHATEVER THE INPUT: true; the input reads as it did. -/
def statCutSpec : ChangeSpec := { name := "statCut", fn := fun _ => fun
  | [d1, d2, d3] => { results := [.lit (.bool true)], args := [d1, d2, d3] }
  | _ => none }
def statCutRow : OpenClaim := { program := "ytoblafeiidjaaaa", sum := "2f8fd4b89d76936cd8768199d5f0bbc31261a733623304bf79e64acd56eddba6", func := "loggia/loggialaw4.StatCut", spec := "statCut", inPlace := ["internal/bytealg.IndexByteString", "internal/bytealg.IndexString"], unfollowed := true, recurses := true, named := ["internal/bytealg.MaxLen"], apart := false }
def StatCutSaid : Prop := statCutRow.holds Try.pinned (OpenSpec.ofChange statCutSpec)

/-- ITS FALSE NEIGHBOUR: 'it returns false'. Refute it at one input. -/
def statCutWrong : ChangeSpec := { name := "statCut", fn := fun _ => fun
  | [d1, d2, d3] => { results := [.lit (.bool false)], args := [d1, d2, d3] }
  | _ => none }
def StatCutWrongFalsely : Prop := statCutRow.holds Try.pinned (OpenSpec.ofChange statCutWrong)

/- THE SECOND FORM. 'bulk': how many values and letters a reading holds, each counted each time it is reached (what is shared counts as often as it is met; a slice's spare places count too). A statement '..UptoSaid' is the law's where the arguments, and the package variables that the reading takes, are together of bulk at most 1048576: NARROWER than '..Said'. Prove '..Said' where nothing that the law and all that it calls make is longer than what came in: it says more and counts as full. Else prove '..UptoSaid'. A law counts once. -/
mutual
def uptoBulk {H : Type} : DataW H → Nat
  | .lit (.string bytes) => bytes.length + 1
  | .lit _ => 1
  | .nil => 1
  | .ptr d => uptoBulk d + 1
  | .slice elems spare => uptoBulkAll elems + uptoBulkAll spare + 1
  | .agg parts => uptoBulkAll parts + 1
  | .iface _ d => uptoBulk d + 1
  | .map entries => uptoBulkEntries entries + 1
  | .held _ => 1
def uptoBulkAll {H : Type} : List (DataW H) → Nat
  | [] => 0
  | d :: r => uptoBulk d + uptoBulkAll r
def uptoBulkEntries {H : Type} : List (Lit × DataW H) → Nat
  | [] => 0
  | x :: r => uptoBulkEntry x + uptoBulkEntries r
def uptoBulkEntry {H : Type} : Lit × DataW H → Nat
  | (.string bytes, d) => bytes.length + uptoBulk d + 1
  | (_, d) => uptoBulk d + 1
 end
def uptoSmall : (H : Type) → List (DataW H) → Bool := fun _ ds => decide (uptoBulkAll ds ≤ 1048576)
def OpenSpec.upto (s : _root_.Go.ChangeSpec) : _root_.Go.OpenSpec := { _root_.Go.OpenSpec.ofChange s with cond := some uptoSmall }

/-- 'loggialaw22.ReadAsks', WHERE WHAT IT READS IS OF BULK AT MOST 1048576: true; the input reads as it did. -/
def readAsksUptoRow : OpenClaim := { program := "ytoblafeiidjaaaa", sum := "2f8fd4b89d76936cd8768199d5f0bbc31261a733623304bf79e64acd56eddba6", func := "loggia/loggialaw22.ReadAsks", spec := "readAsks", inPlace := ["internal/bytealg.IndexByteString", "internal/bytealg.IndexString"], unfollowed := true, recurses := true, named := ["internal/bytealg.MaxLen"], apart := false, narrowed := true }
def ReadAsksUptoSaid : Prop := readAsksUptoRow.holds Try.pinned (OpenSpec.upto readAsksSpec)

/-- 'loggialaw22.ReadOne', WHERE WHAT IT READS IS OF BULK AT MOST 1048576: true; the input reads as it did. -/
def readOneUptoRow : OpenClaim := { program := "ytoblafeiidjaaaa", sum := "2f8fd4b89d76936cd8768199d5f0bbc31261a733623304bf79e64acd56eddba6", func := "loggia/loggialaw22.ReadOne", spec := "readOne", inPlace := ["internal/bytealg.IndexByteString", "internal/bytealg.IndexString"], unfollowed := true, recurses := true, named := ["internal/bytealg.MaxLen"], apart := false, narrowed := true }
def ReadOneUptoSaid : Prop := readOneUptoRow.holds Try.pinned (OpenSpec.upto readOneSpec)

/-- 'loggialaw22.ReadPieces', WHERE WHAT IT READS IS OF BULK AT MOST 1048576: true; the input reads as it did. -/
def readPiecesUptoRow : OpenClaim := { program := "ytoblafeiidjaaaa", sum := "2f8fd4b89d76936cd8768199d5f0bbc31261a733623304bf79e64acd56eddba6", func := "loggia/loggialaw22.ReadPieces", spec := "readPieces", inPlace := ["internal/bytealg.IndexByteString", "internal/bytealg.IndexString"], unfollowed := true, recurses := true, named := ["internal/bytealg.MaxLen"], apart := false, narrowed := true }
def ReadPiecesUptoSaid : Prop := readPiecesUptoRow.holds Try.pinned (OpenSpec.upto readPiecesSpec)

/-- 'loggialaw2.TextAny', WHERE WHAT IT READS IS OF BULK AT MOST 1048576: true; the input reads as it did. -/
def textAnyUptoRow : OpenClaim := { program := "ytoblafeiidjaaaa", sum := "2f8fd4b89d76936cd8768199d5f0bbc31261a733623304bf79e64acd56eddba6", func := "loggia/loggialaw2.TextAny", spec := "textAny", inPlace := ["internal/bytealg.IndexByteString", "internal/bytealg.IndexString"], unfollowed := true, recurses := true, named := ["internal/bytealg.MaxLen"], apart := false, narrowed := true }
def TextAnyUptoSaid : Prop := textAnyUptoRow.holds Try.pinned (OpenSpec.upto textAnySpec)

/-- 'loggialaw2.TextBack', WHERE WHAT IT READS IS OF BULK AT MOST 1048576: true; the input reads as it did. -/
def textBackUptoRow : OpenClaim := { program := "ytoblafeiidjaaaa", sum := "2f8fd4b89d76936cd8768199d5f0bbc31261a733623304bf79e64acd56eddba6", func := "loggia/loggialaw2.TextBack", spec := "textBack", inPlace := ["internal/bytealg.IndexByteString", "internal/bytealg.IndexString"], unfollowed := true, recurses := true, named := ["internal/bytealg.MaxLen"], apart := false, narrowed := true }
def TextBackUptoSaid : Prop := textBackUptoRow.holds Try.pinned (OpenSpec.upto textBackSpec)

/-- 'loggialaw2.TextPairs', WHERE WHAT IT READS IS OF BULK AT MOST 1048576: true; the input reads as it did. -/
def textPairsUptoRow : OpenClaim := { program := "ytoblafeiidjaaaa", sum := "2f8fd4b89d76936cd8768199d5f0bbc31261a733623304bf79e64acd56eddba6", func := "loggia/loggialaw2.TextPairs", spec := "textPairs", inPlace := ["internal/bytealg.IndexByteString", "internal/bytealg.IndexString"], unfollowed := true, recurses := true, named := ["internal/bytealg.MaxLen"], apart := false, narrowed := true }
def TextPairsUptoSaid : Prop := textPairsUptoRow.holds Try.pinned (OpenSpec.upto textPairsSpec)

/-- 'loggialaw2.TextBytes', WHERE WHAT IT READS IS OF BULK AT MOST 1048576: true; the input reads as it did. -/
def textBytesUptoRow : OpenClaim := { program := "ytoblafeiidjaaaa", sum := "2f8fd4b89d76936cd8768199d5f0bbc31261a733623304bf79e64acd56eddba6", func := "loggia/loggialaw2.TextBytes", spec := "textBytes", inPlace := ["internal/bytealg.IndexByteString", "internal/bytealg.IndexString"], unfollowed := true, recurses := true, named := ["internal/bytealg.MaxLen"], apart := false, narrowed := true }
def TextBytesUptoSaid : Prop := textBytesUptoRow.holds Try.pinned (OpenSpec.upto textBytesSpec)

/-- 'loggialaw4.StatBack', WHERE WHAT IT READS IS OF BULK AT MOST 1048576: true; the input reads as it did. -/
def statBackUptoRow : OpenClaim := { program := "ytoblafeiidjaaaa", sum := "2f8fd4b89d76936cd8768199d5f0bbc31261a733623304bf79e64acd56eddba6", func := "loggia/loggialaw4.StatBack", spec := "statBack", inPlace := ["internal/bytealg.IndexByteString", "internal/bytealg.IndexString"], unfollowed := true, recurses := true, named := ["internal/bytealg.MaxLen"], apart := false, narrowed := true }
def StatBackUptoSaid : Prop := statBackUptoRow.holds Try.pinned (OpenSpec.upto statBackSpec)

/-- 'loggialaw4.StatBytes', WHERE WHAT IT READS IS OF BULK AT MOST 1048576: true; the input reads as it did. -/
def statBytesUptoRow : OpenClaim := { program := "ytoblafeiidjaaaa", sum := "2f8fd4b89d76936cd8768199d5f0bbc31261a733623304bf79e64acd56eddba6", func := "loggia/loggialaw4.StatBytes", spec := "statBytes", inPlace := ["internal/bytealg.IndexByteString", "internal/bytealg.IndexString"], unfollowed := true, recurses := true, named := ["internal/bytealg.MaxLen"], apart := false, narrowed := true }
def StatBytesUptoSaid : Prop := statBytesUptoRow.holds Try.pinned (OpenSpec.upto statBytesSpec)

/-- 'loggialaw4.StatCut', WHERE WHAT IT READS IS OF BULK AT MOST 1048576: true; the input reads as it did. -/
def statCutUptoRow : OpenClaim := { program := "ytoblafeiidjaaaa", sum := "2f8fd4b89d76936cd8768199d5f0bbc31261a733623304bf79e64acd56eddba6", func := "loggia/loggialaw4.StatCut", spec := "statCut", inPlace := ["internal/bytealg.IndexByteString", "internal/bytealg.IndexString"], unfollowed := true, recurses := true, named := ["internal/bytealg.MaxLen"], apart := false, narrowed := true }
def StatCutUptoSaid : Prop := statCutUptoRow.holds Try.pinned (OpenSpec.upto statCutSpec)

end Rows
end Go.Proofs.Ytoblafeiidjaaaa
