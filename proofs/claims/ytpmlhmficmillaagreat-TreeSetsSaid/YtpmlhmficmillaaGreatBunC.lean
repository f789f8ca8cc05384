/- A record of the program as a plain structure. No condition. -/
import Derived.Test.YtpmlhmficmillaaGreatBunNA
namespace Go.Proofs.YtpmlhmficmillaaGreat
open Go.RowKit
set_option maxRecDepth 100000

structure Stat where
  kind : Nat
  dev : Nat
  qt : Nat
  qv : Nat
  qp : Nat
  mode : Nat
  atm : Nat
  mtm : Nat
  len : Nat
  name : ByteArray
  uid : ByteArray
  gid : ByteArray
  muid : ByteArray

def Stat.cells (s : Stat) : Array Value := #[.int .u16 (s.kind : Int), .int .u32 (s.dev : Int), .int .u8 (s.qt : Int), .int .u32 (s.qv : Int), .int .u64 (s.qp : Int), .int .u32 (s.mode : Int), .int .u32 (s.atm : Int), .int .u32 (s.mtm : Int), .int .u64 (s.len : Int), .string s.name, .string s.uid, .string s.gid, .string s.muid]

structure StatOk (s : Stat) : Prop where
  kind : s.kind < 65536
  dev : s.dev < 4294967296
  qt : s.qt < 256
  qv : s.qv < 4294967296
  qp : s.qp < 18446744073709551616
  mode : s.mode < 4294967296
  atm : s.atm < 4294967296
  mtm : s.mtm < 4294967296
  len : s.len < 18446744073709551616
  name : s.name.size ≤ maxLen
  uid : s.uid.size ≤ maxLen
  gid : s.gid.size ≤ maxLen
  muid : s.muid.size ≤ maxLen

structure Few (s : Stat) : Prop where
  name : s.name.size ≤ 200
  uid : s.uid.size ≤ 200
  gid : s.gid.size ≤ 200
  muid : s.muid.size ≤ 200
def Stat.size (s : Stat) : Nat := 49 + s.name.size + s.uid.size + s.gid.size + s.muid.size
end Go.Proofs.YtpmlhmficmillaaGreat
