/- A record of the program as a plain structure. No condition.
What stat.Size, qid.Put and stat.Encode do, for every record whose texts are at most 200 bytes each. No further condition.
What stat.Encode returns, for every record whose texts are at most 200 bytes each. No further condition. -/
import Derived.Test.YtlmojhlacfjmaaaGreatNumZ
import Derived.Test.YtlmojhlacfjmaaaGreatNum2Z
namespace Go.Proofs.YtlmojhlacfjmaaaGreat
section
open Go.RowKit
set_option maxRecDepth 100000

structure Stat where
 kind : Nat
 dev : Nat
 qt : Nat
 qv : Nat
 qp : Nat
 mode : Nat
 atm : Nat
 mtm : Nat
 len : Nat
 name : ByteArray
 uid : ByteArray
 gid : ByteArray
 muid : ByteArray

def Stat.cells (s : Stat) : Array Value := #[.int .u16 (s.kind : Int), .int .u32 (s.dev : Int), .int .u8 (s.qt : Int), .int .u32 (s.qv : Int), .int .u64 (s.qp : Int), .int .u32 (s.mode : Int), .int .u32 (s.atm : Int), .int .u32 (s.mtm : Int), .int .u64 (s.len : Int), .string s.name, .string s.uid, .string s.gid, .string s.muid]

structure StatOk (s : Stat) : Prop where
 kind : s.kind < 65536
 dev : s.dev < 4294967296
 qt : s.qt < 256
 qv : s.qv < 4294967296
 qp : s.qp < 18446744073709551616
 mode : s.mode < 4294967296
 atm : s.atm < 4294967296
 mtm : s.mtm < 4294967296
 len : s.len < 18446744073709551616
 name : s.name.size ≤ maxLen
 uid : s.uid.size ≤ maxLen
 gid : s.gid.size ≤ maxLen
 muid : s.muid.size ≤ maxLen

structure Few (s : Stat) : Prop where
 name : s.name.size ≤ 200
 uid : s.uid.size ≤ 200
 gid : s.gid.size ≤ 200
 muid : s.muid.size ≤ 200
def Stat.size (s : Stat) : Nat := 49 + s.name.size + s.uid.size + s.gid.size + s.muid.size
def StatCells (w : World) (b o : Nat) (s : Stat) : Prop :=
 w.cell? ⟨b, o, none⟩ = some (.int .u16 (s.kind : Int)) ∧ w.cell? ⟨b, o + 1, none⟩ = some (.int .u32 (s.dev : Int)) ∧ w.cell? ⟨b, o + 2, none⟩ = some (.int .u8 (s.qt : Int)) ∧ w.cell? ⟨b, o + 3, none⟩ = some (.int .u32 (s.qv : Int)) ∧
 w.cell? ⟨b, o + 4, none⟩ = some (.int .u64 (s.qp : Int)) ∧ w.cell? ⟨b, o + 5, none⟩ = some (.int .u32 (s.mode : Int)) ∧ w.cell? ⟨b, o + 6, none⟩ = some (.int .u32 (s.atm : Int)) ∧ w.cell? ⟨b, o + 7, none⟩ = some (.int .u32 (s.mtm : Int)) ∧
 w.cell? ⟨b, o + 8, none⟩ = some (.int .u64 (s.len : Int)) ∧ w.cell? ⟨b, o + 9, none⟩ = some (.string s.name) ∧ w.cell? ⟨b, o + 10, none⟩ = some (.string s.uid) ∧ w.cell? ⟨b, o + 11, none⟩ = some (.string s.gid) ∧ w.cell? ⟨b, o + 12, none⟩ = some (.string s.muid)
end
end Go.Proofs.YtlmojhlacfjmaaaGreat

namespace Go.Proofs.YtlmojhlacfjmaaaGreat
section
open Go.RowKit
set_option maxRecDepth 100000

def qidBytes (t v p : Nat) : List UInt8 := numBytes t 1 ++ numBytes v 4 ++ numBytes p 8

def Stat.head (s : Stat) : List UInt8 := numBytes s.kind 2 ++ numBytes s.dev 4 ++ qidBytes s.qt s.qv s.qp ++ numBytes s.mode 4 ++ numBytes s.atm 4 ++ numBytes s.mtm 4 ++ numBytes s.len 8
def Stat.texts (s : Stat) : List ByteArray := [s.name, s.uid, s.gid, s.muid]

def textsErr : List ByteArray → Nat
 | [] => 0
 | t :: l => if mayN t = 0 then textsErr l else mayN t
def textsBytes : List ByteArray → List UInt8
 | [] => []
 | t :: l => putText t ++ textsBytes l

def Stat.err (s : Stat) : Nat := textsErr s.texts
def Stat.bytes (s : Stat) : List UInt8 := if s.err = 0 then numBytes (s.size - 2) 2 ++ s.head ++ textsBytes s.texts else []

set_option maxHeartbeats 400000 in
theorem size_any (s : Stat) (w : World) (h : Few s) : Calls Tryz.prog 101 #[.agg s.cells] w fun e w' => e = .returned (.int .i64 (s.size : Int)) ∧ Below w.heap.size w w' := by
 obtain ⟨h1, h2, h3, h4⟩ := h
 obtain ⟨kind, dev, qt, qv, qp, mode, atm, mtm, len, name, uid, gid, muid⟩ := s
 simp only [Stat.cells] at *
 go_enter Tryz.func101, Tryz.ntmps101
 go_wp2
 go_ret
 exact ⟨ret_int (by simp only [Stat.size]; omega), (Below.refl _ _).alloc (Nat.le_refl _) _⟩

theorem qidBytes_length (t v p : Nat) : (qidBytes t v p).length = 13 := by unfold qidBytes; simp [numBytes_length]

set_option maxHeartbeats 400000 in
theorem qid_put_any (b : Nat) (xs : List UInt8) (t v p : Nat) (w : World) (ht : t < 256) (hv : v < 4294967296) (hp : p < 18446744073709551616) (hx : xs.length ≤ 1000000) (ho : OutIs w b xs) :
  Calls Tryz.prog 98 #[.pointer (some ⟨b, 0, none⟩), .agg #[.int .u8 (t : Int), .int .u32 (v : Int), .int .u64 (p : Int)]] w fun e w' => e = .returned (.tuple #[]) ∧ OutIs w' b (xs ++ qidBytes t v p) ∧ OStep b w w' := by
 have hlt := ho.lt
 have hb0 := (Below.refl w.heap.size w).alloc (Nat.le_refl _) (.cells #[.int .u8 (t : Int), .int .u32 (v : Int), .int .u64 (p : Int)] 28)
 have ho1 := ho.below hb0
 have hnf := ho.new (.cells #[.int .u8 (t : Int), .int .u32 (v : Int), .int .u64 (p : Int)] 28)
 have hq := heap_alloc_new w (.cells #[.int .u8 (t : Int), .int .u32 (v : Int), .int .u64 (p : Int)] 28)
 replace hq := hid hq
 go_enter Tryz.func98, Tryz.ntmps98
 go_wp2_with fail
 refine (put_step b xs 1 t _ (by omega) (by omega) (by omega) (by omega) ho1).mono ?_
 rintro e w1 ⟨rfl, ho2, hs1⟩
 obtain ⟨e1, n1⟩ := hs1.block w.heap.size (by simp) hnf
 have hq1 := e1.trans hq.out
 have hc1 : w1.cell? ⟨w.heap.size, 0 + 1, none⟩ = some (.int .u32 (v : Int)) := block_cell hq1 1
 replace e1 := hid e1
 replace hq1 := hid hq1
 have l1 : (xs ++ numBytes t 1).length = xs.length + 1 := by rw [List.length_append, numBytes_length]
 replace l1 := hid l1
 go_wp2_with fail
 refine (put_step b (xs ++ numBytes t 1) 4 v w1 (by omega) (by omega) (by omega) (by rw [l1.out]; omega) ho2).mono ?_
 rintro e w2 ⟨rfl, ho3, hs2⟩
 obtain ⟨e2, n2⟩ := hs2.block w.heap.size (lt_of_block hq1.out) n1
 have hq2 := e2.trans hq1.out
 have hc2 : w2.cell? ⟨w.heap.size, 0 + 2, none⟩ = some (.int .u64 (p : Int)) := block_cell hq2 2
 replace e2 := hid e2
 replace hq2 := hid hq2
 clear hc1
 have l2 : (xs ++ numBytes t 1 ++ numBytes v 4).length = xs.length + 5 := by rw [List.length_append, l1.out, numBytes_length]
 replace l2 := hid l2
 go_wp2_with fail
 refine (put_step b (xs ++ numBytes t 1 ++ numBytes v 4) 8 p w2 (by omega) (by omega) (by omega) (by rw [l2.out]; omega) ho3).mono ?_
 rintro e w3 ⟨rfl, ho4, hs3⟩
 go_wp2_with fail
 go_end0
 refine ⟨rfl, by unfold qidBytes; rw [← List.append_assoc, ← List.append_assoc]; exact ho4, (((OStep.pure hlt hb0).trans hs1).trans hs2).trans hs3⟩
end
end Go.Proofs.YtlmojhlacfjmaaaGreat

namespace Go.Proofs.YtlmojhlacfjmaaaGreat
section
open Go.RowKit
set_option maxRecDepth 100000

def bytes4 : List Nat → List UInt8
 | [] => []
 | n :: l => numBytes n 4 ++ bytes4 l
theorem bytes4_append : ∀ l m : List Nat, bytes4 (l ++ m) = bytes4 l ++ bytes4 m
 | [], _ => rfl
 | n :: l, m => by rw [List.cons_append]; simp only [bytes4]; rw [bytes4_append l m, List.append_assoc]
theorem bytes4_length : ∀ l : List Nat, (bytes4 l).length = 4 * l.length
 | [] => rfl
 | n :: l => by simp only [bytes4]; rw [List.length_append, numBytes_length, bytes4_length l]; simp; omega
theorem bytes4_snoc (l : List Nat) (k : Nat) (h : k < l.length) : bytes4 (l.take (k + 1)) = bytes4 (l.take k) ++ numBytes l[k] 4 := by
 rw [List.take_succ_eq_append_getElem h, bytes4_append]; simp [bytes4]

theorem textsBytes_append : ∀ l m : List ByteArray, textsBytes (l ++ m) = textsBytes l ++ textsBytes m
 | [], _ => rfl
 | n :: l, m => by rw [List.cons_append]; simp only [textsBytes]; rw [textsBytes_append l m, List.append_assoc]
theorem putText_length (s : ByteArray) : (putText s).length = 2 + s.size := by unfold putText; rw [List.length_append, numBytes_length]; simp
theorem textsBytes_snoc (l : List ByteArray) (k : Nat) (h : k < l.length) : textsBytes (l.take (k + 1)) = textsBytes (l.take k) ++ putText l[k] := by
 rw [List.take_succ_eq_append_getElem h, textsBytes_append]; simp [textsBytes]
theorem textsErr_drop (l : List ByteArray) (k : Nat) (h : k < l.length) : textsErr (l.drop k) = if mayN l[k] = 0 then textsErr (l.drop (k + 1)) else mayN l[k] := by
 rw [List.drop_eq_getElem_cons h]; rfl

theorem arr3 {α : Type} (a b c : α) (k : Nat) (h : k < 3) : (#[a, b, c])[k]? = some ([a, b, c][k]) := by
 match k, h with
 | 0, _ => rfl
 | 1, _ => rfl
 | 2, _ => rfl
theorem head_eq (s : Stat) : s.head = numBytes s.kind 2 ++ numBytes s.dev 4 ++ qidBytes s.qt s.qv s.qp ++ bytes4 [s.mode, s.atm, s.mtm] ++ numBytes s.len 8 := by
 unfold Stat.head; simp [bytes4]

structure EncAt (w w' : World) (b q : Nat) (cs : Array Value) (ys : List UInt8) : Prop where
 out : OutIs w' b ys
 box : w'.heap[q]? = some (.cells cs 31 (0, 0))
 below : Below q w w'
 lt : q < b

theorem EncAt.step {w w1 w2 : World} {b q : Nat} {cs : Array Value} {ys zs : List UInt8} (h : EncAt w w1 b q cs ys) (ho : OutIs w2 b zs) (hs : OStep b w1 w2) : EncAt w w2 b q cs zs :=
 ⟨ho, (hs.below.block q h.lt).trans h.box, h.below.trans (hs.below.mono (Nat.le_of_lt h.lt)), h.lt⟩

theorem EncAt.same {w w1 w2 : World} {b q : Nat} {cs : Array Value} {ys : List UInt8} (h : EncAt w w1 b q cs ys) (hb : Below w1.heap.size w1 w2) : EncAt w w2 b q cs ys :=
 ⟨h.out.below hb, (hb.block q (lt_of_block h.box)).trans h.box, h.below.trans (hb.mono (Nat.le_of_lt (lt_of_block h.box))), h.lt⟩

def EncNew (w : World) (s : Stat) (e : Ending) (w' : World) : Prop := ∃ v', e = .returned (.tuple #[v', .int .i64 (s.err : Int)]) ∧ (BytesAt w' v' s.bytes ∧ ∀ k, v'.ownBlock = some k → w.heap.size ≤ k) ∧ Below w.heap.size w w'
set_option maxHeartbeats 3200000 in
theorem encode_new (s : Stat) (w : World) (hok : StatOk s) (hf : Few s) : Calls Tryz.prog 99 #[.agg s.cells] w (EncNew w s) := by
 have hsz := hid (size_any s)
 have hsize : s.size ≤ 849 := by obtain ⟨h1, h2, h3, h4⟩ := hf; unfold Stat.size; omega
 obtain ⟨o1, o2, o3, o4, o5, o6, o7, o8, o9, _, _, _, _⟩ := hok
 have hfew := hid hf
 obtain ⟨f1, f2, f3, f4⟩ := hf
 have hE : Hid (s.err = textsErr s.texts) := hid rfl
 have hB : Hid (s.bytes = if s.err = 0 then numBytes (s.size - 2) 2 ++ s.head ++ textsBytes s.texts else []) := hid rfl
 have hH := hid (head_eq s)
 obtain ⟨cs, hcs⟩ : ∃ cs, cs = s.cells := ⟨_, rfl⟩
 have hcs' := hid hcs
 rw [← hcs]
 have hbox : ∀ W : World, (∀ i, W.cell? ⟨w.heap.size, i, none⟩ = cs[i]?) → True := fun _ _ => trivial
 clear hbox
 subst hcs
 clear hcs'
 have st0 : EncAt w ((w.alloc (.cells s.cells 31)).alloc (.cells #[.slice none 0 0] 62)) (w.heap.size + 1) w.heap.size s.cells [] :=
  ⟨by have := outIs_new (t := 62) (w.alloc (.cells s.cells 31)); simpa using this, by rw [heap_alloc_old _ _ (by simp), heap_alloc_new], ((Below.refl _ _).alloc (Nat.le_refl _) _).alloc (by simp) _, by omega⟩
 have hcs : Hid (s.cells = #[.int .u16 (s.kind : Int), .int .u32 (s.dev : Int), .int .u8 (s.qt : Int), .int .u32 (s.qv : Int), .int .u64 (s.qp : Int), .int .u32 (s.mode : Int), .int .u32 (s.atm : Int), .int .u32 (s.mtm : Int), .int .u64 (s.len : Int), .string s.name, .string s.uid, .string s.gid, .string s.muid]) := hid rfl
 go_enter Tryz.func99, Tryz.ntmps99
 rw [hcs.out]
 go_wp2_with fail
 rw [← hcs.out]
 refine (hsz.out _ hfew.out).mono ?_
 rintro e w1 ⟨rfl, hb1⟩
 have st1 := st0.same hb1
 have hw2 : (s.size : Int) - 2 = ((s.size - 2 : Nat) : Int) := by unfold Stat.size; omega
 go_wp2_with fail
 refine (put_step (w.heap.size + 1) [] 2 (s.size - 2) w1 (by omega) (by omega) (by omega) (by simp) st1.out).mono ?_
 rintro e w2 ⟨rfl, ho2, hs2⟩
 rw [List.nil_append] at ho2
 have st2 := st1.step ho2 hs2
 clear hs2 ho2 st1 hb1 hw2
 have c0 : w2.cell? ⟨w.heap.size, 0, none⟩ = some (.int .u16 (s.kind : Int)) := block_cell st2.box 0
 have l2 : (numBytes (s.size - 2) 2).length = 2 := by simp [numBytes_length]
 replace l2 := hid l2
 go_wp2_with fail
 refine (put_step (w.heap.size + 1) _ 2 s.kind w2 (by omega) (by omega) (by omega) (by rw [l2.out]; omega) st2.out).mono ?_
 rintro e w3 ⟨rfl, ho3, hs3⟩
 have st3 := st2.step ho3 hs3
 clear hs3 ho3 st2 c0 l2
 have c1 : w3.cell? ⟨w.heap.size, 0 + 1, none⟩ = some (.int .u32 (s.dev : Int)) := block_cell st3.box 1
 have l3 : (numBytes (s.size - 2) 2 ++ numBytes s.kind 2).length = 4 := by simp [numBytes_length]
 replace l3 := hid l3
 go_wp2_with fail
 refine (put_step (w.heap.size + 1) _ 4 s.dev w3 (by omega) (by omega) (by omega) (by rw [l3.out]; omega) st3.out).mono ?_
 rintro e w4 ⟨rfl, ho4, hs4⟩
 have st4 := st3.step ho4 hs4
 clear hs4 ho4 st3 c1 l3
 have c2 : w4.cell? ⟨w.heap.size, 0 + 2, none⟩ = some (.int .u8 (s.qt : Int)) := block_cell st4.box 2
 have c3 : w4.cell? ⟨w.heap.size, 0 + 2 + 1, none⟩ = some (.int .u32 (s.qv : Int)) := block_cell st4.box 3
 have c4 : w4.cell? ⟨w.heap.size, 0 + 2 + 2, none⟩ = some (.int .u64 (s.qp : Int)) := block_cell st4.box 4
 have l4 : (numBytes (s.size - 2) 2 ++ numBytes s.kind 2 ++ numBytes s.dev 4).length = 8 := by simp [numBytes_length]
 replace l4 := hid l4
 go_wp2_with fail
 refine (qid_put_any (w.heap.size + 1) _ s.qt s.qv s.qp w4 (by omega) (by omega) (by omega) (by rw [l4.out]; omega) st4.out).mono ?_
 rintro e w5 ⟨rfl, ho5, hs5⟩
 have st5 := st4.step ho5 hs5
 clear hs5 ho5 st4 c2 c3 c4 l4
 have c5 : w5.cell? ⟨w.heap.size, 0 + 5, none⟩ = some (.int .u32 (s.mode : Int)) := block_cell st5.box 5
 have c6 : w5.cell? ⟨w.heap.size, 0 + 6, none⟩ = some (.int .u32 (s.atm : Int)) := block_cell st5.box 6
 have c7 : w5.cell? ⟨w.heap.size, 0 + 7, none⟩ = some (.int .u32 (s.mtm : Int)) := block_cell st5.box 7
 obtain ⟨xs, hxs⟩ : ∃ xs, xs = numBytes (s.size - 2) 2 ++ numBytes s.kind 2 ++ numBytes s.dev 4 ++ qidBytes s.qt s.qv s.qp := ⟨_, rfl⟩
 rw [← hxs] at st5
 have lx : xs.length = 21 := by rw [hxs]; simp [numBytes_length, qidBytes_length]
 replace hxs := hid hxs
 have lx2 : xs.length ≤ 21 := by omega
 replace lx := hid lx
 have hnf := st5.out.new (.cells #[.int .u32 (s.mode : Int), .int .u32 (s.atm : Int), .int .u32 (s.mtm : Int)] 23)
 have hnb := heap_alloc_new w5 (.cells #[.int .u32 (s.mode : Int), .int .u32 (s.atm : Int), .int .u32 (s.mtm : Int)] 23)
 have st6 := st5.same ((Below.refl w5.heap.size w5).alloc (Nat.le_refl _) (.cells #[.int .u32 (s.mode : Int), .int .u32 (s.atm : Int), .int .u32 (s.mtm : Int)] 23))
 replace hnb := hid hnb
 go_wp2_with fail
 go_loopw [34] (fun i wr => ∃ k : Nat, k ≤ 3 ∧ i = .int .i64 (k : Int) ∧ EncAt w wr (w.heap.size + 1) w.heap.size s.cells (xs ++ bytes4 ([s.mode, s.atm, s.mtm].take k)) ∧ ¬ Foot wr (w.heap.size + 1) w5.heap.size ∧
   wr.heap[w5.heap.size]? = some (.cells #[.int .u32 (s.mode : Int), .int .u32 (s.atm : Int), .int .u32 (s.mtm : Int)] 23 (0, 0))) (fun i _ => 3 - (intOf i).toNat)
 case atStart => exact ⟨0, by omega, rfl, by simpa [bytes4] using st6, hnf, hnb.out⟩
 case round =>
  obtain ⟨k, hk, rfl, st, hnf, hnb⟩ := hrel
  by_cases hlt : k < 3
  ·have hlt2 : k < [s.mode, s.atm, s.mtm].length := hlt
   have hcell : wr.cell? ⟨w5.heap.size, k, none⟩ = some (.int .u32 ([s.mode, s.atm, s.mtm][k] : Int)) := by
    rw [block_cell hnb k, arr3 _ _ _ k hlt]
    match k, hlt with
    | 0, _ => rfl
    | 1, _ => rfl
    | 2, _ => rfl
   have hlt3 : [s.mode, s.atm, s.mtm][k] < 4294967296 := by
    match k, hlt with
    | 0, _ => exact o6
    | 1, _ => exact o7
    | 2, _ => exact o8
   have hsn := hid (bytes4_snoc [s.mode, s.atm, s.mtm] k hlt2)
   have hll : (xs ++ bytes4 ([s.mode, s.atm, s.mtm].take k)).length ≤ 33 := by rw [List.length_append, bytes4_length, List.length_take]; simp; omega
   generalize [s.mode, s.atm, s.mtm][k] = x at hcell hlt3 hsn
   replace hnb := hid hnb
   generalize hgy : xs ++ bytes4 ([s.mode, s.atm, s.mtm].take k) = ys at st hll
   replace hgy := hid hgy
   go_wp2_with fail
   refine (put_step (w.heap.size + 1) ys 4 x wr (by omega) (by omega) (by omega) (by omega) st.out).mono ?_
   rintro e w6 ⟨rfl, ho6, hs6⟩
   obtain ⟨e6, n6⟩ := hs6.block w5.heap.size (lt_of_block hnb.out) hnf
   have st6 := st.step ho6 hs6
   replace e6 := hid (e6.trans hnb.out)
   replace n6 := hid n6
   clear hs6 ho6 hcell
   go_wp2_with fail
   go_roundw
   case rel => exact ⟨k + 1, by omega, by go_num, by rw [hsn.out, ← List.append_assoc, hgy.out]; exact st6, n6.out, e6.out⟩
   case measure => simp [intOf]; omega
  ·obtain rfl : k = 3 := by omega
   rw [show [s.mode, s.atm, s.mtm].take 3 = [s.mode, s.atm, s.mtm] from rfl] at st
   clear hnb hnf
   have c8 : wr.cell? ⟨w.heap.size, 0 + 8, none⟩ = some (.int .u64 (s.len : Int)) := block_cell st.box 8
   have hll : (xs ++ bytes4 [s.mode, s.atm, s.mtm]).length = 33 := by rw [List.length_append, bytes4_length]; simp [lx.out]
   replace hll := hid hll
   go_wp2_with fail
   refine (put_step (w.heap.size + 1) _ 8 s.len wr (by omega) (by omega) (by omega) (by rw [hll.out]; omega) st.out).mono ?_
   rintro e w7 ⟨rfl, ho7, hs7⟩
   have st7 := st.step ho7 hs7
   clear hs7 ho7 st c8
   obtain ⟨zs, hzs⟩ : ∃ zs, zs = xs ++ bytes4 [s.mode, s.atm, s.mtm] ++ numBytes s.len 8 := ⟨_, rfl⟩
   rw [← hzs] at st7
   have lz : zs.length ≤ 41 := by rw [hzs, List.length_append, hll.out, numBytes_length]; omega
   have hZ : Hid (zs = numBytes (s.size - 2) 2 ++ s.head) := hid (by rw [hzs, hxs.out, hH.out]; simp)
   clear hzs hll
   have c9 : w7.cell? ⟨w.heap.size, 0 + 9, none⟩ = some (.string s.name) := block_cell st7.box 9
   have c10 : w7.cell? ⟨w.heap.size, 0 + 10, none⟩ = some (.string s.uid) := block_cell st7.box 10
   have c11 : w7.cell? ⟨w.heap.size, 0 + 11, none⟩ = some (.string s.gid) := block_cell st7.box 11
   have c12 : w7.cell? ⟨w.heap.size, 0 + 12, none⟩ = some (.string s.muid) := block_cell st7.box 12
   have hnf := st7.out.new (.cells #[.string s.name, .string s.uid, .string s.gid, .string s.muid] 9)
   have hnb := heap_alloc_new w7 (.cells #[.string s.name, .string s.uid, .string s.gid, .string s.muid] 9)
   have st8 := st7.same ((Below.refl w7.heap.size w7).alloc (Nat.le_refl _) (.cells #[.string s.name, .string s.uid, .string s.gid, .string s.muid] 9))
   replace hnb := hid hnb
   obtain ⟨T, hT⟩ : ∃ T, T = s.texts := ⟨_, rfl⟩
   have hTl : T.length = 4 := by rw [hT]; rfl
   have hTs : ∀ k (h : k < T.length), T[k].size ≤ 200 := by
    subst hT
    intro k h
    match k, h with
    | 0, _ => exact f1
    | 1, _ => exact f2
    | 2, _ => exact f3
    | 3, _ => exact f4
   have hTc : ∀ k (h : k < T.length), (#[Value.string s.name, .string s.uid, .string s.gid, .string s.muid])[k]? = some (.string T[k]) := by
    subst hT
    intro k h
    match k, h with
    | 0, _ => rfl
    | 1, _ => rfl
    | 2, _ => rfl
    | 3, _ => rfl
   have hTsum : ∀ k, k ≤ 4 → (textsBytes (T.take k)).length ≤ k * 202 := by
    intro k
    induction k with
    | zero => intro _; simp [textsBytes]
    | succ k ih =>
     intro hk
     have hkl : k < T.length := by omega
     rw [textsBytes_snoc T k hkl, List.length_append, putText_length]
     have := hTs k hkl
     have := ih (by omega)
     omega
   replace hT := hid hT
   replace hTs := hid hTs
   replace hTc := hid hTc
   replace hTsum := hid hTsum
   have hTl2 : T.length ≤ 4 := by omega
   have hTl4 := hid hTl
   clear hTl
   go_wp2_with fail
   go_loopw [55] (fun i wr => ∃ k : Nat, k ≤ 4 ∧ i = .int .i64 (k : Int) ∧ EncAt w wr (w.heap.size + 1) w.heap.size s.cells (zs ++ textsBytes (T.take k)) ∧ ¬ Foot wr (w.heap.size + 1) w7.heap.size ∧
     wr.heap[w7.heap.size]? = some (.cells #[.string s.name, .string s.uid, .string s.gid, .string s.muid] 9 (0, 0)) ∧ Hid (textsErr T = textsErr (T.drop k))) (fun i _ => 4 - (intOf i).toNat)
   case atStart => exact ⟨0, by omega, rfl, by simpa [textsBytes] using st8, hnf, hnb.out, hid rfl⟩
   case round =>
    obtain ⟨k, hk, rfl, st, hnf, hnb, hte⟩ := hrel
    by_cases hlt : k < 4
    ·have hlt2 : k < T.length := by rw [hTl4.out]; exact hlt
     have hcell : wr.cell? ⟨w7.heap.size, k, none⟩ = some (.string T[k]) := by
      rw [block_cell hnb k, hTc.out k hlt2]
     have hts := hTs.out k hlt2
     have hsn := hid (textsBytes_snoc T k hlt2)
     have hed := hid (textsErr_drop T k hlt2)
     have hll : (zs ++ textsBytes (T.take k)).length ≤ 900 := by rw [List.length_append]; have := hTsum.out k hk; omega
     generalize T[k] = x at hcell hts hsn hed
     replace hnb := hid hnb
     generalize hgy : zs ++ textsBytes (T.take k) = ys at st hll
     replace hgy := hid hgy
     by_cases hm : mayN x = 0
     ·have hpr := hid (putTextR_ok hm)
      have hed2 : Hid (textsErr T = textsErr (T.drop (k + 1))) := hid (by rw [hte.out, hed.out, if_pos hm])
      replace hm := hid hm
      go_wp2_with fail
      refine (text_put_step (w.heap.size + 1) ys x wr (by omega) (by omega) st.out).mono ?_
      rw [hm.out]
      rintro e w6 ⟨rfl, ho6, hs6⟩
      obtain ⟨e6, n6⟩ := hs6.block w7.heap.size (lt_of_block hnb.out) hnf
      have st6 := st.step ho6 hs6
      replace e6 := hid (e6.trans hnb.out)
      replace n6 := hid n6
      clear hs6 ho6 hcell
      go_wp2_with fail
      go_roundw
      case rel => exact ⟨k + 1, by omega, by go_num, by rw [hsn.out, ← List.append_assoc, hgy.out, ← hpr.out]; exact st6, n6.out, e6.out, hed2⟩
      case measure => simp [intOf]; omega
     ·have hfin : s.err = mayN x := by rw [hE.out, ← hT.out, hte.out, hed.out, if_neg hm]
      have hfb : s.bytes = [] := by rw [hB.out, if_neg (by rw [hfin]; exact hm)]
      have k0 : ((mayN x : Int) != 0) = true := by simpa using hm
      replace hfin := hid hfin
      replace hfb := hid hfb
      clear hm
      go_wp2_with fail
      refine (text_put_step (w.heap.size + 1) ys x wr (by omega) (by omega) st.out).mono ?_
      rintro e w6 ⟨rfl, ho6, hs6⟩
      have st6 := st.step ho6 hs6
      clear hs6 ho6 hcell
      go_wp2_with fail
      go_ret2
      exact ⟨_, by rw [hfin.out]; rfl, ⟨by rw [hfb.out]; exact RowAt.nil, fun k hk => by cases hk⟩, st6.below⟩
    ·obtain rfl : k = 4 := by omega
     have hfin : s.err = 0 := by rw [hE.out, ← hT.out, hte.out, List.drop_of_length_le hTl2]; rfl
     have hfb : s.bytes = zs ++ textsBytes (T.take 4) := by rw [hB.out, if_pos hfin, hZ.out, List.take_of_length_le hTl2, hT.out]
     have hll : (zs ++ textsBytes (T.take 4)).length ≤ 900 := by rw [List.length_append]; have := hTsum.out 4 (by omega); omega
     replace hfin := hid hfin
     replace hfb := hid hfb
     generalize hgy : zs ++ textsBytes (T.take 4) = ys at st hll
     replace hgy := hid hgy
     clear hnf hnb
     go_wp2_with fail
     refine (out_bytes_new (w.heap.size + 1) ys wr (by omega) st.out).mono ?_
     rintro e w9 ⟨v9, rfl, hv9, hb9⟩
     obtain ⟨hv9, hn9⟩ := hv9
     replace hn9 := hid hn9
     go_wp2_with fail
     go_ret2
     exact ⟨_, by rw [hfin.out]; rfl, ⟨by rw [hfb.out, hgy.out]; exact hv9, fun k hk => Nat.le_trans st.below.size (hn9.out k hk)⟩, sn st.below hb9⟩
theorem head_len (s : Stat) : s.head.length = 39 := by unfold Stat.head; simp [numBytes_length, qidBytes_length]
theorem bytes_len (s : Stat) : s.bytes.length = if s.err = 0 then s.size else 0 := by
 unfold Stat.bytes
 split
 ·rw [List.length_append, List.length_append, head_len, numBytes_length]
  unfold Stat.texts Stat.size
  simp only [textsBytes, List.length_append, putText_length, List.length_nil]
  omega
 ·rfl
theorem bytes_le (s : Stat) (h : Few s) : s.bytes.length ≤ 849 := by
 rw [bytes_len]
 obtain ⟨h1, h2, h3, h4⟩ := h
 unfold Stat.size
 split <;> omega
end
end Go.Proofs.YtlmojhlacfjmaaaGreat
