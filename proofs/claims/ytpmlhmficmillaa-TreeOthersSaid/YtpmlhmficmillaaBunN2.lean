/- A node of a tree, and its cells. Plain.
What Put and Raw of num.Out and text.Put leave as it was, block by block, under bounds on lengths that each theorem names. No further condition. -/
import Derived.Test.YtpmlhmficmillaaProg
import Derived.ProofKit
import Derived.Test.YtpmlhmficmillaaBunVT
namespace Go.Proofs.Ytpmlhmficmillaa
section
open Go.RowKit
set_option maxRecDepth 100000
set_option linter.unusedVariables false

structure Nod where
  path : Nat
  vers : Nat
  mode : Nat
  atm : Nat
  mtm : Nat
  name : ByteArray
  uid : ByteArray
  gid : ByteArray
  muid : ByteArray
  up : Nat
  gone : Bool
  data : ByteArray
def Nod.cells (n : Nod) : Array Value := #[.int .u64 (n.path : Int), .int .u32 (n.vers : Int), .int .u32 (n.mode : Int), .int .u32 (n.atm : Int), .int .u32 (n.mtm : Int), .string n.name, .string n.uid, .string n.gid, .string n.muid, .int .u64 (n.up : Int), .bool n.gone, .string n.data]
structure NodOk (n : Nod) : Prop where
  path : n.path < 18446744073709551616
  vers : n.vers < 4294967296
  mode : n.mode < 4294967296
  atm : n.atm < 4294967296
  mtm : n.mtm < 4294967296
  name : n.name.size ≤ maxLen
  uid : n.uid.size ≤ maxLen
  gid : n.gid.size ≤ maxLen
  muid : n.muid.size ≤ maxLen
  up : n.up < 18446744073709551616
  data : n.data.size ≤ maxLen
theorem nod_cells (n : Nod) : n.cells = #[.int .u64 (n.path : Int), .int .u32 (n.vers : Int), .int .u32 (n.mode : Int), .int .u32 (n.atm : Int), .int .u32 (n.mtm : Int), .string n.name, .string n.uid, .string n.gid, .string n.muid, .int .u64 (n.up : Int), .bool n.gone, .string n.data] := rfl

theorem nod_one (n : Nod) : n.cells.all (·.oneCell') = true := by simp [nod_cells, Value.oneCell']

end
end Go.Proofs.Ytpmlhmficmillaa

namespace Go.Proofs.Ytpmlhmficmillaa
section
open Go.RowKit
set_option maxRecDepth 100000
def Foot (w : World) (b k : Nat) : Prop := k = b ∨ ∃ v, w.cell? ⟨b, 0, none⟩ = some v ∧ v.ownBlock = some k

def TwoAt (w : World) (b : Nat) : Prop := ∃ (cs : Array Value) (t : TypeId) (fr : Nat × Nat), w.heap[b]? = some (.cells cs t fr) ∧ cs.size = 2
structure OStep (b : Nat) (w w' : World) : Prop where
  below : Below b w w'
  block : ∀ k, k < w.heap.size → ¬ Foot w b k → w'.heap[k]? = w.heap[k]? ∧ ¬ Foot w' b k
  two : TwoAt w b → TwoAt w' b ∧ ∀ k, Foot w' b k → Foot w b k

theorem OStep.refl (b : Nat) (w : World) : OStep b w w := ⟨Below.refl _ _, fun _ _ h => ⟨rfl, h⟩, fun h => ⟨h, fun _ h => h⟩⟩
theorem OStep.trans {b : Nat} {w w1 w2 : World} (h : OStep b w w1) (k : OStep b w1 w2) : OStep b w w2 :=
  ⟨h.below.trans k.below, fun j hj hn => by
    obtain ⟨e1, n1⟩ := h.block j hj hn
    obtain ⟨e2, n2⟩ := k.block j (Nat.lt_of_lt_of_le hj h.below.size) n1
    exact ⟨e2.trans e1, n2⟩, fun ht => by
    obtain ⟨t1, f1⟩ := h.two ht
    obtain ⟨t2, f2⟩ := k.two t1
    exact ⟨t2, fun j hj => f1 j (f2 j hj)⟩⟩
theorem OutIs.new {w : World} {b : Nat} {xs : List UInt8} (h : OutIs w b xs) (o : Obj) : ¬ Foot (w.alloc o) b w.heap.size := by
  obtain ⟨v, ot, h1, h2⟩ := h
  have hlt := lt_of_block h1
  rintro (he | ⟨u, hu, hk⟩)
  · omega
  · have h1' : (w.alloc o).heap[b]? = some (.cells #[v] ot (0, 0)) := (heap_alloc_old w o hlt).trans h1
    rw [cell_of_one h1'] at hu
    cases hu
    have := (h2.lt _ hk).2
    omega

end
end Go.Proofs.Ytpmlhmficmillaa
