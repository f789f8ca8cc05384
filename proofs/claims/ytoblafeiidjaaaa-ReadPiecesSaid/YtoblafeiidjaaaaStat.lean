/- What stat.Size, qid.Put and stat.Encode do, for every record whose texts are at most 200 bytes each. No further condition. -/
import Derived.Test.YtoblafeiidjaaaaNum2
import Derived.Test.YtoblafeiidjaaaaStatD
namespace Go.Proofs.Ytoblafeiidjaaaa
open Go.RowKit
set_option maxRecDepth 100000

def qidBytes (t v p : Nat) : List UInt8 := numBytes t 1 ++ numBytes v 4 ++ numBytes p 8

def Stat.head (s : Stat) : List UInt8 := numBytes s.kind 2 ++ numBytes s.dev 4 ++ qidBytes s.qt s.qv s.qp ++ numBytes s.mode 4 ++ numBytes s.atm 4 ++ numBytes s.mtm 4 ++ numBytes s.len 8
def Stat.texts (s : Stat) : List ByteArray := [s.name, s.uid, s.gid, s.muid]

/-- The first error among texts. -/
def textsErr : List ByteArray → Nat
  | [] => 0
  | t :: l => if mayN t = 0 then textsErr l else mayN t
def textsBytes : List ByteArray → List UInt8
  | [] => []
  | t :: l => putText t ++ textsBytes l

def Stat.err (s : Stat) : Nat := textsErr s.texts
def Stat.bytes (s : Stat) : List UInt8 := if s.err = 0 then numBytes (s.size - 2) 2 ++ s.head ++ textsBytes s.texts else []

set_option maxHeartbeats 400000 in
theorem size_any (s : Stat) (w : World) (h : Few s) : Calls Try.prog 17 #[.agg s.cells] w fun e w' => e = .returned (.int .i64 (s.size : Int)) ∧ Below w.heap.size w w' := by
  obtain ⟨h1, h2, h3, h4⟩ := h
  obtain ⟨kind, dev, qt, qv, qp, mode, atm, mtm, len, name, uid, gid, muid⟩ := s
  simp only [Stat.cells] at *
  go_enter Try.func17, Try.ntmps17
  go_wp2
  go_ret
  exact ⟨ret_int (by simp only [Stat.size]; omega), (Below.refl _ _).alloc (Nat.le_refl _) _⟩

theorem qidBytes_length (t v p : Nat) : (qidBytes t v p).length = 13 := by unfold qidBytes; simp [numBytes_length]

set_option maxHeartbeats 400000 in
theorem qid_put_any (b : Nat) (xs : List UInt8) (t v p : Nat) (w : World) (ht : t < 256) (hv : v < 4294967296) (hp : p < 18446744073709551616) (hx : xs.length ≤ 1000000) (ho : OutIs w b xs) :
    Calls Try.prog 49 #[.pointer (some ⟨b, 0, none⟩), .agg #[.int .u8 (t : Int), .int .u32 (v : Int), .int .u64 (p : Int)]] w fun e w' => e = .returned (.tuple #[]) ∧ OutIs w' b (xs ++ qidBytes t v p) ∧ OStep b w w' := by
  have hlt := ho.lt
  have hb0 := (Below.refl w.heap.size w).alloc (Nat.le_refl _) (.cells #[.int .u8 (t : Int), .int .u32 (v : Int), .int .u64 (p : Int)] 35)
  have ho1 := ho.below hb0
  have hnf := ho.new (.cells #[.int .u8 (t : Int), .int .u32 (v : Int), .int .u64 (p : Int)] 35)
  have hq := heap_alloc_new w (.cells #[.int .u8 (t : Int), .int .u32 (v : Int), .int .u64 (p : Int)] 35)
  replace hq := hid hq
  go_enter Try.func49, Try.ntmps49
  go_wp2_with fail
  refine (put_step b xs 1 t _ (by omega) (by omega) (by omega) (by omega) ho1).mono ?_
  rintro e w1 ⟨rfl, ho2, hs1⟩
  obtain ⟨e1, n1⟩ := hs1.block w.heap.size (by simp) hnf
  have hq1 := e1.trans hq.out
  have hc1 : w1.cell? ⟨w.heap.size, 0 + 1, none⟩ = some (.int .u32 (v : Int)) := block_cell hq1 1
  replace e1 := hid e1
  replace hq1 := hid hq1
  have l1 : (xs ++ numBytes t 1).length = xs.length + 1 := by rw [List.length_append, numBytes_length]
  replace l1 := hid l1
  go_wp2_with fail
  refine (put_step b (xs ++ numBytes t 1) 4 v w1 (by omega) (by omega) (by omega) (by rw [l1.out]; omega) ho2).mono ?_
  rintro e w2 ⟨rfl, ho3, hs2⟩
  obtain ⟨e2, n2⟩ := hs2.block w.heap.size (lt_of_block hq1.out) n1
  have hq2 := e2.trans hq1.out
  have hc2 : w2.cell? ⟨w.heap.size, 0 + 2, none⟩ = some (.int .u64 (p : Int)) := block_cell hq2 2
  replace e2 := hid e2
  replace hq2 := hid hq2
  clear hc1
  have l2 : (xs ++ numBytes t 1 ++ numBytes v 4).length = xs.length + 5 := by rw [List.length_append, l1.out, numBytes_length]
  replace l2 := hid l2
  go_wp2_with fail
  refine (put_step b (xs ++ numBytes t 1 ++ numBytes v 4) 8 p w2 (by omega) (by omega) (by omega) (by rw [l2.out]; omega) ho3).mono ?_
  rintro e w3 ⟨rfl, ho4, hs3⟩
  go_wp2_with fail
  go_end0
  refine ⟨rfl, by unfold qidBytes; rw [← List.append_assoc, ← List.append_assoc]; exact ho4, (((OStep.pure hlt hb0).trans hs1).trans hs2).trans hs3⟩
end Go.Proofs.Ytoblafeiidjaaaa
