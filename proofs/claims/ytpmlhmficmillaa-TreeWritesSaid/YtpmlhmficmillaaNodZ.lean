/- A node of a tree, and its cells. Plain. -/
import Derived.Test.YtpmlhmficmillaaProg
import Derived.ProofKit
namespace Go.Proofs.Ytpmlhmficmillaa
open Go.RowKit
set_option maxRecDepth 100000
set_option linter.unusedVariables false

/-- A file of a tree. -/
structure Nod where
  path : Nat
  vers : Nat
  mode : Nat
  atm : Nat
  mtm : Nat
  name : ByteArray
  uid : ByteArray
  gid : ByteArray
  muid : ByteArray
  up : Nat
  gone : Bool
  data : ByteArray
def Nod.cells (n : Nod) : Array Value := #[.int .u64 (n.path : Int), .int .u32 (n.vers : Int), .int .u32 (n.mode : Int), .int .u32 (n.atm : Int), .int .u32 (n.mtm : Int), .string n.name, .string n.uid, .string n.gid, .string n.muid, .int .u64 (n.up : Int), .bool n.gone, .string n.data]
structure NodOk (n : Nod) : Prop where
  path : n.path < 18446744073709551616
  vers : n.vers < 4294967296
  mode : n.mode < 4294967296
  atm : n.atm < 4294967296
  mtm : n.mtm < 4294967296
  name : n.name.size ≤ maxLen
  uid : n.uid.size ≤ maxLen
  gid : n.gid.size ≤ maxLen
  muid : n.muid.size ≤ maxLen
  up : n.up < 18446744073709551616
  data : n.data.size ≤ maxLen
theorem nod_cells (n : Nod) : n.cells = #[.int .u64 (n.path : Int), .int .u32 (n.vers : Int), .int .u32 (n.mode : Int), .int .u32 (n.atm : Int), .int .u32 (n.mtm : Int), .string n.name, .string n.uid, .string n.gid, .string n.muid, .int .u64 (n.up : Int), .bool n.gone, .string n.data] := rfl

theorem nod_one (n : Nod) : n.cells.all (·.oneCell') = true := by simp [nod_cells, Value.oneCell']

end Go.Proofs.Ytpmlhmficmillaa
