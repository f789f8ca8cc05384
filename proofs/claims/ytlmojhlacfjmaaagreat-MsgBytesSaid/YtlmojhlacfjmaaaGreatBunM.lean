/- What the methods of msg.twin copy. No condition.
What the other methods of msg.twin copy. No condition.
What a copy of the fields of a message is, and each field along a twin. No condition. -/
import Derived.Test.YtlmojhlacfjmaaaGreatBunV2
import Derived.LaidEqlPtr
import Derived.Test.YtlmojhlacfjmaaaGreatBunH
import Derived.Test.YtlmojhlacfjmaaaGreatBunF
namespace Go.Proofs.YtlmojhlacfjmaaaGreat
section
open Go.RowKit
set_option maxRecDepth 100000
set_option linter.unusedVariables false

def twinCells (qm qx : Nat) : Array Value := #[.pointer (some ⟨qm, 0, none⟩), .pointer (some ⟨qx, 0, none⟩)]
structure TwAt (w0 w : World) (t qm qx : Nat) (cm cx : Array Value) : Prop where
 tw : w.heap[t]? = some (.cells (twinCells qm qx) 111 (0, 0))
 mb : w.heap[qm]? = some (.cells cm 33 (0, 0))
 xb : w.heap[qx]? = some (.cells cx 33 (0, 0))
 ne : qm ≠ qx ∧ t ≠ qx
 below : ∀ m, m ≤ qx → Below m w0 w
theorem TwAt.same {w0 w w' : World} {t qm qx : Nat} {cm cx : Array Value} (h : TwAt w0 w t qm qx cm cx) (hb : Below w.heap.size w w') : TwAt w0 w' t qm qx cm cx :=
 ⟨(hb.block t (lt_of_block h.tw)).trans h.tw, (hb.block qm (lt_of_block h.mb)).trans h.mb, (hb.block qx (lt_of_block h.xb)).trans h.xb, h.ne, fun m hm => (h.below m hm).trans (hb.mono (by have := lt_of_block h.xb; omega))⟩
theorem TwAt.set {w0 w : World} {t qm qx : Nat} {cm cx : Array Value} (h : TwAt w0 w t qm qx cm cx) (i : Nat) (u : Value) : TwAt w0 (w.setCell ⟨qx, i, none⟩ u) t qm qx cm (cx.setIfInBounds i u) :=
 ⟨(block_set_other h.ne.2).trans h.tw, (block_set_other h.ne.1).trans h.mb, block_set h.xb i u, h.ne, fun m hm => (h.below m hm).setCell hm _⟩
theorem TwAt.drew {w0 w : World} {t qm qx : Nat} {cm cx : Array Value} (h : TwAt w0 w t qm qx cm cx) : TwAt w0 w.drew t qm qx cm cx := h.same (Below.refl _ _).drew
def TwPost (w0 : World) (t qm qx : Nat) (cm cx : Array Value) (e : Ending) (w' : World) : Prop := e = .returned (.tuple #[]) ∧ TwAt w0 w' t qm qx cm cx

theorem twin_u8 (t qm qx i : Nat) (cm cx : Array Value) (n : Nat) (u : Value) (w0 w : World) (h : TwAt w0 w t qm qx cm cx) (hm : cm[17]? = some (.int .u8 (n : Int))) (hx : cx[i]? = some u) :
  Calls Tryz.prog 126 #[.pointer (some ⟨t, 0, none⟩), .pointer (some ⟨qx, i, none⟩)] w (TwPost w0 t qm qx cm (cx.setIfInBounds i (.int .u8 (n : Int)))) := by
 have c0 : w.cell? ⟨t, 0, none⟩ = some (.pointer (some ⟨qm, 0, none⟩)) := block_cell h.tw 0
 have c1 : w.cell? ⟨qm, 17, none⟩ = some (.int .u8 (n : Int)) := (block_cell h.mb 17).trans hm
 have c2 : w.cell? ⟨qx, i, none⟩ = some u := (block_cell h.xb i).trans hx
 have f2 : w.frozen? ⟨qx, i, none⟩ = false := block_free h.xb i
 replace h := hid h
 clear hm hx
 go_enter Tryz.func126, Tryz.ntmps126
 go_wp2_with fail
 go_end0
 exact ⟨rfl, h.out.set i _⟩

def offs32 : List Nat := [2, 4, 5, 6, 16, 18, 21]
theorem offs32_at (qm qx : Nat) : ∀ k, k < 7 → ∃ o, offs32[k]? = some o ∧ (cells_u32 qm qx)[k * 2]? = some (.pointer (some ⟨qx, o, none⟩)) ∧ (cells_u32 qm qx)[k * 2 + 1]? = some (.pointer (some ⟨qm, o, none⟩))
 | 0, _ => ⟨_, rfl, rfl, rfl⟩
 | 1, _ => ⟨_, rfl, rfl, rfl⟩
 | 2, _ => ⟨_, rfl, rfl, rfl⟩
 | 3, _ => ⟨_, rfl, rfl, rfl⟩
 | 4, _ => ⟨_, rfl, rfl, rfl⟩
 | 5, _ => ⟨_, rfl, rfl, rfl⟩
 | 6, _ => ⟨_, rfl, rfl, rfl⟩
theorem offs32_one : ∀ j k o, j < 7 → k < 7 → offs32[j]? = some o → offs32[k]? = some o → k = j := by
 intro j k o hj hk h1 h2
 have h : ∀ j < 7, ∀ k < 7, offs32[j]? = offs32[k]? → k = j := by decide
 exact h j hj k hk (h1.trans h2.symm)

theorem infoU32 : (Tryz.prog.info? 23).map (fun i => (i.zero, i.size, i.bytes)) = some (some (.int .u32 0), 1, 4) := by kernel_rfl
theorem eq_u32_same (w : World) (a : Addr) : (binOp .eql 93 (.pointer (some a)) (.pointer (some a))).run Tryz.prog w = .ok (.bool true) w := by
 obtain ⟨i0, hi0, hz0, hz1, hz2⟩ := info_parts infoU32
 exact run_eql_ptr_same w a Tryz.underlying93 hi0
theorem eq_u32_other (w : World) (b i j : Nat) (cs : Array Value) (t : TypeId) (hb : w.heap[b]? = some (.cells cs t (0, 0))) (h : i ≠ j) : (binOp .eql 93 (.pointer (some ⟨b, i, none⟩)) (.pointer (some ⟨b, j, none⟩))).run Tryz.prog w = .ok (.bool false) w := by
 obtain ⟨i0, hi0, hz0, hz1, hz2⟩ := info_parts infoU32
 exact run_eql_ptr_other w Tryz.underlying93 hi0 (by rw [hz1]; decide) (fun e => h (by cases e; rfl)) hb hb

set_option maxHeartbeats 4000000 in
theorem twin_u32 (t qm qx i j : Nat) (cm cx : Array Value) (ns : Nat → Nat) (w0 w : World) (h : TwAt w0 w t qm qx cm cx) (hj : j < 7) (hij : offs32[j]? = some i) (hm : ∀ (o k : Nat), offs32[k]? = some o → cm[o]? = some (Value.int .u32 (ns o : Int))) (u : Value) (hx : cx[i]? = some u) :
  Calls Tryz.prog 124 #[.pointer (some ⟨t, 0, none⟩), .pointer (some ⟨qx, i, none⟩)] w (TwPost w0 t qm qx cm (cx.setIfInBounds i (.int .u32 (ns i : Int)))) := by
 have c0 : w.cell? ⟨t, 0, none⟩ = some (.pointer (some ⟨qm, 0, none⟩)) := block_cell h.tw 0
 have c1 : w.cell? ⟨t, 1, none⟩ = some (.pointer (some ⟨qx, 0, none⟩)) := block_cell h.tw 1
 replace h := hid h
 replace hij := hid hij
 replace hm := hid hm
 replace hx := hid hx
 go_enter Tryz.func124, Tryz.ntmps124
 go_wp2_with fail
 have hSS := hid (show TwS t qm qx w from ⟨c0, c1⟩)
 refine region_u32 t qm qx i _ (fun _ _ d _ _ h => by cases d <;> exact h) w hSS.out ?_
 have hpb := heap_alloc_new w.drew (.cells (cells_u32 qm qx) 173)
 have hst := h.out.drew.same ((Below.refl w.drew.heap.size w.drew).alloc (Nat.le_refl _) (.cells (cells_u32 qm qx) 173))
 clear c0 c1
 go_wp2_with fail
 have hsz : w.drew.heap.size = w.heap.size := rfl
 have hqx : qx < w.heap.size := lt_of_block h.out.xb
 rw [hsz] at hpb
 have hj1 := hid hj
 replace hpb := hid hpb
 replace hst := hid hst
 clear hj
 go_loopw [99] (fun kv wr => ∃ k : Nat, k ≤ 7 ∧ kv = .int .i64 (k : Int) ∧ TwAt w0 wr t qm qx cm (if j < k then cx.setIfInBounds i (.int .u32 (ns i : Int)) else cx) ∧ wr.heap[w.heap.size]? = some (.cells (cells_u32 qm qx) 173 (0, 0))) (fun kv _ => 7 - (intOf kv).toNat)
 case atStart => exact ⟨0, by omega, rfl, by rw [if_neg (by omega)]; exact hst.out, hpb.out⟩
 case round =>
  obtain ⟨k, hk, rfl, hT, hb⟩ := hrel
  by_cases hk7 : k < 7
  ·obtain ⟨o, ho, hc1, hc2⟩ := offs32_at qm qx k hk7
   have p1 : wr.cell? ⟨w.heap.size, k * 2, none⟩ = some (.pointer (some ⟨qx, o, none⟩)) := (block_cell hb _).trans hc1
   have p2 : wr.cell? ⟨w.heap.size, k * 2 + 1, none⟩ = some (.pointer (some ⟨qm, o, none⟩)) := (block_cell hb _).trans hc2
   have hbl := lt_of_block hb
   have hbb := (Below.refl wr.heap.size wr).alloc (Nat.le_refl _) (.cells #[.pointer (some ⟨qx, o, none⟩), .pointer (some ⟨qm, o, none⟩)] 173)
   have hT2 := hid (hT.same hbb)
   have hb2 := hid ((hbb.block w.heap.size hbl).trans hb)
   have m1 : wr.cell? ⟨qm, o, none⟩ = some (.int .u32 (ns o : Int)) := (block_cell hT.mb o).trans (hm.out o k ho)
   have hqm := lt_of_block hT.mb
   have hqx2 := lt_of_block hT.xb
   replace hb := hid hb
   by_cases hoi : o = i
   ·subst hoi
    have hkj : k = j := offs32_one j k o hj1.out hk7 hij.out ho
    subst hkj
    have x1 : wr.cell? ⟨qx, o, none⟩ = some u := by rw [block_cell hT.xb o, if_neg (by omega)]; exact hx.out
    have f1 : wr.frozen? ⟨qx, o, none⟩ = false := block_free hT.xb o
    replace ho := hid ho
    replace hT := hid hT
    have heq := eq_u32_same (wr.alloc (.cells #[.pointer (some ⟨qx, o, none⟩), .pointer (some ⟨qm, o, none⟩)] 173)) ⟨qx, o, none⟩
    have hA : Hid (TwAt w0 ((wr.setCell ⟨qx, o, none⟩ (.int .u32 (ns o : Int))).alloc (.cells #[.pointer (some ⟨qx, o, none⟩), .pointer (some ⟨qm, o, none⟩)] 173)) t qm qx cm (cx.setIfInBounds o (.int .u32 (ns o : Int)))) := hid (by
     have hT0 := hT.out
     rw [if_neg (by omega)] at hT0
     exact (hT0.set o _).same ((Below.refl _ _).alloc (Nat.le_refl _) _))
    have hB : Hid (((wr.setCell ⟨qx, o, none⟩ (.int .u32 (ns o : Int))).alloc (.cells #[.pointer (some ⟨qx, o, none⟩), .pointer (some ⟨qm, o, none⟩)] 173)).heap[w.heap.size]? = some (.cells (cells_u32 qm qx) 173 (0, 0))) := hid (by
     rw [heap_alloc_old _ _ (by simpa using hbl)]
     exact (block_set_other (by show w.heap.size ≠ qx; omega)).trans hb.out)
    go_wp2_with fail
    go_roundw
    case rel => exact ⟨k + 1, by omega, by go_num, by rw [if_pos (by omega)]; exact hA.out, hB.out⟩
    case measure => simp [intOf]; omega
   ·have heq := eq_u32_other _ qx o i _ _ hT2.out.xb hoi
    have hkj : Hid (k ≠ j) := hid (fun e => hoi (by subst e; rw [hij.out] at ho; exact (Option.some.inj ho).symm))
    have hif : Hid ((if j < k + 1 then cx.setIfInBounds i (.int .u32 (ns i : Int)) else cx) = (if j < k then cx.setIfInBounds i (.int .u32 (ns i : Int)) else cx)) := hid (by
     have := hkj.out
     by_cases hjk : j < k
     ·rw [if_pos hjk, if_pos (by omega)]
     ·rw [if_neg hjk, if_neg (by omega)])
    replace ho := hid ho
    replace hT := hid hT
    go_wp2_with fail
    go_roundw
    case rel => exact ⟨k + 1, by omega, by go_num, by rw [hif.out]; exact hT2.out, hb2.out⟩
    case measure => simp [intOf]; omega
  ·obtain rfl : k = 7 := by omega
   rw [if_pos hj1.out] at hT
   replace hT := hid hT
   replace hb := hid hb
   go_wp2_with fail
   go_end0
   exact ⟨rfl, hT.out⟩
end
end Go.Proofs.YtlmojhlacfjmaaaGreat

namespace Go.Proofs.YtlmojhlacfjmaaaGreat
section
open Go.RowKit
set_option maxRecDepth 100000
set_option linter.unusedVariables false

theorem twin_u16 (t qm qx i : Nat) (cm cx : Array Value) (n : Nat) (u : Value) (w0 w : World) (h : TwAt w0 w t qm qx cm cx) (hm : cm[10]? = some (.int .u16 (n : Int))) (hx : cx[i]? = some u) :
  Calls Tryz.prog 123 #[.pointer (some ⟨t, 0, none⟩), .pointer (some ⟨qx, i, none⟩)] w (TwPost w0 t qm qx cm (cx.setIfInBounds i (.int .u16 (n : Int)))) := by
 have c0 : w.cell? ⟨t, 0, none⟩ = some (.pointer (some ⟨qm, 0, none⟩)) := block_cell h.tw 0
 have c1 : w.cell? ⟨qm, 10, none⟩ = some (.int .u16 (n : Int)) := (block_cell h.mb 10).trans hm
 have c2 : w.cell? ⟨qx, i, none⟩ = some u := (block_cell h.xb i).trans hx
 have f2 : w.frozen? ⟨qx, i, none⟩ = false := block_free h.xb i
 replace h := hid h
 clear hm hx
 go_enter Tryz.func123, Tryz.ntmps123
 go_wp2_with fail
 go_end0
 exact ⟨rfl, h.out.set i _⟩

theorem twin_u64 (t qm qx i : Nat) (cm cx : Array Value) (n : Nat) (u : Value) (w0 w : World) (h : TwAt w0 w t qm qx cm cx) (hm : cm[20]? = some (.int .u64 (n : Int))) (hx : cx[i]? = some u) :
  Calls Tryz.prog 125 #[.pointer (some ⟨t, 0, none⟩), .pointer (some ⟨qx, i, none⟩)] w (TwPost w0 t qm qx cm (cx.setIfInBounds i (.int .u64 (n : Int)))) := by
 have c0 : w.cell? ⟨t, 0, none⟩ = some (.pointer (some ⟨qm, 0, none⟩)) := block_cell h.tw 0
 have c1 : w.cell? ⟨qm, 20, none⟩ = some (.int .u64 (n : Int)) := (block_cell h.mb 20).trans hm
 have c2 : w.cell? ⟨qx, i, none⟩ = some u := (block_cell h.xb i).trans hx
 have f2 : w.frozen? ⟨qx, i, none⟩ = false := block_free h.xb i
 replace h := hid h
 clear hm hx
 go_enter Tryz.func125, Tryz.ntmps125
 go_wp2_with fail
 go_end0
 exact ⟨rfl, h.out.set i _⟩

theorem twin_texts (t qm qx i : Nat) (cm cx : Array Value) (a : Option Addr) (n k : Nat) (u : Value) (w0 w : World) (h : TwAt w0 w t qm qx cm cx) (hm : cm[11]? = some (.slice a n k)) (hx : cx[i]? = some u) :
  Calls Tryz.prog 122 #[.pointer (some ⟨t, 0, none⟩), .pointer (some ⟨qx, i, none⟩)] w (TwPost w0 t qm qx cm (cx.setIfInBounds i (.slice a n k))) := by
 have c0 : w.cell? ⟨t, 0, none⟩ = some (.pointer (some ⟨qm, 0, none⟩)) := block_cell h.tw 0
 have c1 : w.cell? ⟨qm, 11, none⟩ = some (.slice a n k) := (block_cell h.mb 11).trans hm
 have c2 : w.cell? ⟨qx, i, none⟩ = some u := (block_cell h.xb i).trans hx
 have f2 : w.frozen? ⟨qx, i, none⟩ = false := block_free h.xb i
 replace h := hid h
 clear hm hx
 go_enter Tryz.func122, Tryz.ntmps122
 go_wp2_with fail
 go_end0
 exact ⟨rfl, h.out.set i _⟩

theorem twin_qids (t qm qx i : Nat) (cm cx : Array Value) (a : Option Addr) (n k : Nat) (u : Value) (w0 w : World) (h : TwAt w0 w t qm qx cm cx) (hm : cm[12]? = some (.slice a n k)) (hx : cx[i]? = some u) :
  Calls Tryz.prog 119 #[.pointer (some ⟨t, 0, none⟩), .pointer (some ⟨qx, i, none⟩)] w (TwPost w0 t qm qx cm (cx.setIfInBounds i (.slice a n k))) := by
 have c0 : w.cell? ⟨t, 0, none⟩ = some (.pointer (some ⟨qm, 0, none⟩)) := block_cell h.tw 0
 have c1 : w.cell? ⟨qm, 12, none⟩ = some (.slice a n k) := (block_cell h.mb 12).trans hm
 have c2 : w.cell? ⟨qx, i, none⟩ = some u := (block_cell h.xb i).trans hx
 have f2 : w.frozen? ⟨qx, i, none⟩ = false := block_free h.xb i
 replace h := hid h
 clear hm hx
 go_enter Tryz.func119, Tryz.ntmps119
 go_wp2_with fail
 go_end0
 exact ⟨rfl, h.out.set i _⟩

theorem twin_data (t qm qx i : Nat) (cm cx : Array Value) (a : Option Addr) (n k : Nat) (u : Value) (w0 w : World) (h : TwAt w0 w t qm qx cm cx) (hm : cm[22]? = some (.slice a n k)) (hx : cx[i]? = some u) :
  Calls Tryz.prog 117 #[.pointer (some ⟨t, 0, none⟩), .pointer (some ⟨qx, i, none⟩)] w (TwPost w0 t qm qx cm (cx.setIfInBounds i (.slice a n k))) := by
 have c0 : w.cell? ⟨t, 0, none⟩ = some (.pointer (some ⟨qm, 0, none⟩)) := block_cell h.tw 0
 have c1 : w.cell? ⟨qm, 22, none⟩ = some (.slice a n k) := (block_cell h.mb 22).trans hm
 have c2 : w.cell? ⟨qx, i, none⟩ = some u := (block_cell h.xb i).trans hx
 have f2 : w.frozen? ⟨qx, i, none⟩ = false := block_free h.xb i
 replace h := hid h
 clear hm hx
 go_enter Tryz.func117, Tryz.ntmps117
 go_wp2_with fail
 go_end0
 exact ⟨rfl, h.out.set i _⟩

set_option maxHeartbeats 1600000 in
theorem twin_qid (t qm qx i : Nat) (cm cx : Array Value) (v0 : Nat) (v1 : Nat) (v2 : Nat) (u0 u1 u2 : Value) (w0 w : World) (h : TwAt w0 w t qm qx cm cx) (hm : cm[13]? = some (.int .u8 (v0 : Int)) ∧ cm[14]? = some (.int .u32 (v1 : Int)) ∧ cm[15]? = some (.int .u64 (v2 : Int))) (hx : cx[i]? = some u0 ∧ cx[i + 1]? = some u1 ∧ cx[i + 2]? = some u2) :
  Calls Tryz.prog 118 #[.pointer (some ⟨t, 0, none⟩), .pointer (some ⟨qx, i, none⟩)] w ((TwPost w0 t qm qx cm (((cx.setIfInBounds (i) (.int .u8 (v0 : Int))).setIfInBounds (i + 1) (.int .u32 (v1 : Int))).setIfInBounds (i + 2) (.int .u64 (v2 : Int))))) := by
 have c0 : w.cell? ⟨t, 0, none⟩ = some (.pointer (some ⟨qm, 0, none⟩)) := block_cell h.tw 0
 obtain ⟨a0, a1, a2⟩ := hm
 obtain ⟨b0, b1, b2⟩ := hx
 have c1 : w.cell? ⟨qm, 13, none⟩ = some (.int .u8 (v0 : Int)) := (block_cell h.mb 13).trans a0
 have d0 : w.cell? ⟨qx, i, none⟩ = some u0 := (block_cell h.xb _).trans b0
 have f0 : w.frozen? ⟨qx, i, none⟩ = false := block_free h.xb _
 have c2 : w.cell? ⟨qm, 13 + 1, none⟩ = some (.int .u32 (v1 : Int)) := (block_cell h.mb 14).trans a1
 have d1 : w.cell? ⟨qx, i + 1, none⟩ = some u1 := (block_cell h.xb _).trans b1
 have f1 : w.frozen? ⟨qx, i + 1, none⟩ = false := block_free h.xb _
 have c3 : w.cell? ⟨qm, 13 + 2, none⟩ = some (.int .u64 (v2 : Int)) := (block_cell h.mb 15).trans a2
 have d2 : w.cell? ⟨qx, i + 2, none⟩ = some u2 := (block_cell h.xb _).trans b2
 have f2 : w.frozen? ⟨qx, i + 2, none⟩ = false := block_free h.xb _
 replace h := hid h
 clear a0 a1 a2 b0 b1 b2
 go_enter Tryz.func118, Tryz.ntmps118
 go_wp2_with fail
 go_end0
 exact ⟨rfl, (((h.out.set (i) _).set (i + 1) _).set (i + 2) _)⟩

set_option maxHeartbeats 1600000 in
theorem twin_stat (t qm qx i : Nat) (cm cx : Array Value) (v0 : Nat) (v1 : Nat) (v2 : Nat) (v3 : Nat) (v4 : Nat) (v5 : Nat) (v6 : Nat) (v7 : Nat) (v8 : Nat) (v9 : ByteArray) (v10 : ByteArray) (v11 : ByteArray) (v12 : ByteArray) (u0 u1 u2 u3 u4 u5 u6 u7 u8 u9 u10 u11 u12 : Value) (w0 w : World) (h : TwAt w0 w t qm qx cm cx) (hm : cm[23]? = some (.int .u16 (v0 : Int)) ∧ cm[24]? = some (.int .u32 (v1 : Int)) ∧ cm[25]? = some (.int .u8 (v2 : Int)) ∧ cm[26]? = some (.int .u32 (v3 : Int)) ∧ cm[27]? = some (.int .u64 (v4 : Int)) ∧ cm[28]? = some (.int .u32 (v5 : Int)) ∧ cm[29]? = some (.int .u32 (v6 : Int)) ∧ cm[30]? = some (.int .u32 (v7 : Int)) ∧ cm[31]? = some (.int .u64 (v8 : Int)) ∧ cm[32]? = some (.string v9) ∧ cm[33]? = some (.string v10) ∧ cm[34]? = some (.string v11) ∧ cm[35]? = some (.string v12)) (hx : cx[i]? = some u0 ∧ cx[i + 1]? = some u1 ∧ cx[i + 2]? = some u2 ∧ cx[i + 3]? = some u3 ∧ cx[i + 4]? = some u4 ∧ cx[i + 5]? = some u5 ∧ cx[i + 6]? = some u6 ∧ cx[i + 7]? = some u7 ∧ cx[i + 8]? = some u8 ∧ cx[i + 9]? = some u9 ∧ cx[i + 10]? = some u10 ∧ cx[i + 11]? = some u11 ∧ cx[i + 12]? = some u12) :
  Calls Tryz.prog 120 #[.pointer (some ⟨t, 0, none⟩), .pointer (some ⟨qx, i, none⟩)] w (fun e w' => e = .returned (.tuple #[]) ∧ w' = put13 w qx i ⟨v0, v1, v2, v3, v4, v5, v6, v7, v8, v9, v10, v11, v12⟩) := by
 have c0 : w.cell? ⟨t, 0, none⟩ = some (.pointer (some ⟨qm, 0, none⟩)) := block_cell h.tw 0
 obtain ⟨a0, a1, a2, a3, a4, a5, a6, a7, a8, a9, a10, a11, a12⟩ := hm
 obtain ⟨b0, b1, b2, b3, b4, b5, b6, b7, b8, b9, b10, b11, b12⟩ := hx
 have c1 : w.cell? ⟨qm, 23, none⟩ = some (.int .u16 (v0 : Int)) := (block_cell h.mb 23).trans a0
 have d0 : w.cell? ⟨qx, i, none⟩ = some u0 := (block_cell h.xb _).trans b0
 have f0 : w.frozen? ⟨qx, i, none⟩ = false := block_free h.xb _
 have c2 : w.cell? ⟨qm, 23 + 1, none⟩ = some (.int .u32 (v1 : Int)) := (block_cell h.mb 24).trans a1
 have d1 : w.cell? ⟨qx, i + 1, none⟩ = some u1 := (block_cell h.xb _).trans b1
 have f1 : w.frozen? ⟨qx, i + 1, none⟩ = false := block_free h.xb _
 have c3 : w.cell? ⟨qm, 23 + 2, none⟩ = some (.int .u8 (v2 : Int)) := (block_cell h.mb 25).trans a2
 have d2 : w.cell? ⟨qx, i + 2, none⟩ = some u2 := (block_cell h.xb _).trans b2
 have f2 : w.frozen? ⟨qx, i + 2, none⟩ = false := block_free h.xb _
 have c4 : w.cell? ⟨qm, 23 + 3, none⟩ = some (.int .u32 (v3 : Int)) := (block_cell h.mb 26).trans a3
 have d3 : w.cell? ⟨qx, i + 3, none⟩ = some u3 := (block_cell h.xb _).trans b3
 have f3 : w.frozen? ⟨qx, i + 3, none⟩ = false := block_free h.xb _
 have c5 : w.cell? ⟨qm, 23 + 4, none⟩ = some (.int .u64 (v4 : Int)) := (block_cell h.mb 27).trans a4
 have d4 : w.cell? ⟨qx, i + 4, none⟩ = some u4 := (block_cell h.xb _).trans b4
 have f4 : w.frozen? ⟨qx, i + 4, none⟩ = false := block_free h.xb _
 have c6 : w.cell? ⟨qm, 23 + 5, none⟩ = some (.int .u32 (v5 : Int)) := (block_cell h.mb 28).trans a5
 have d5 : w.cell? ⟨qx, i + 5, none⟩ = some u5 := (block_cell h.xb _).trans b5
 have f5 : w.frozen? ⟨qx, i + 5, none⟩ = false := block_free h.xb _
 have c7 : w.cell? ⟨qm, 23 + 6, none⟩ = some (.int .u32 (v6 : Int)) := (block_cell h.mb 29).trans a6
 have d6 : w.cell? ⟨qx, i + 6, none⟩ = some u6 := (block_cell h.xb _).trans b6
 have f6 : w.frozen? ⟨qx, i + 6, none⟩ = false := block_free h.xb _
 have c8 : w.cell? ⟨qm, 23 + 7, none⟩ = some (.int .u32 (v7 : Int)) := (block_cell h.mb 30).trans a7
 have d7 : w.cell? ⟨qx, i + 7, none⟩ = some u7 := (block_cell h.xb _).trans b7
 have f7 : w.frozen? ⟨qx, i + 7, none⟩ = false := block_free h.xb _
 have c9 : w.cell? ⟨qm, 23 + 8, none⟩ = some (.int .u64 (v8 : Int)) := (block_cell h.mb 31).trans a8
 have d8 : w.cell? ⟨qx, i + 8, none⟩ = some u8 := (block_cell h.xb _).trans b8
 have f8 : w.frozen? ⟨qx, i + 8, none⟩ = false := block_free h.xb _
 have c10 : w.cell? ⟨qm, 23 + 9, none⟩ = some (.string v9) := (block_cell h.mb 32).trans a9
 have d9 : w.cell? ⟨qx, i + 9, none⟩ = some u9 := (block_cell h.xb _).trans b9
 have f9 : w.frozen? ⟨qx, i + 9, none⟩ = false := block_free h.xb _
 have c11 : w.cell? ⟨qm, 23 + 10, none⟩ = some (.string v10) := (block_cell h.mb 33).trans a10
 have d10 : w.cell? ⟨qx, i + 10, none⟩ = some u10 := (block_cell h.xb _).trans b10
 have f10 : w.frozen? ⟨qx, i + 10, none⟩ = false := block_free h.xb _
 have c12 : w.cell? ⟨qm, 23 + 11, none⟩ = some (.string v11) := (block_cell h.mb 34).trans a11
 have d11 : w.cell? ⟨qx, i + 11, none⟩ = some u11 := (block_cell h.xb _).trans b11
 have f11 : w.frozen? ⟨qx, i + 11, none⟩ = false := block_free h.xb _
 have c13 : w.cell? ⟨qm, 23 + 12, none⟩ = some (.string v12) := (block_cell h.mb 35).trans a12
 have d12 : w.cell? ⟨qx, i + 12, none⟩ = some u12 := (block_cell h.xb _).trans b12
 have f12 : w.frozen? ⟨qx, i + 12, none⟩ = false := block_free h.xb _
 replace h := hid h
 clear a0 a1 a2 a3 a4 a5 a6 a7 a8 a9 a10 a11 a12 b0 b1 b2 b3 b4 b5 b6 b7 b8 b9 b10 b11 b12
 go_enter Tryz.func120, Tryz.ntmps120
 go_wp2_with fail
 go_end0
 exact ⟨rfl, rfl⟩

def offsT : List Nat := [3, 7, 8, 9, 19]
theorem offsT_at (qm qx : Nat) : ∀ k, k < 5 → ∃ o, offsT[k]? = some o ∧ (cells_text qm qx)[k * 2]? = some (.pointer (some ⟨qx, o, none⟩)) ∧ (cells_text qm qx)[k * 2 + 1]? = some (.pointer (some ⟨qm, o, none⟩))
 | 0, _ => ⟨_, rfl, rfl, rfl⟩
 | 1, _ => ⟨_, rfl, rfl, rfl⟩
 | 2, _ => ⟨_, rfl, rfl, rfl⟩
 | 3, _ => ⟨_, rfl, rfl, rfl⟩
 | 4, _ => ⟨_, rfl, rfl, rfl⟩
theorem offsT_one : ∀ j k o, j < 5 → k < 5 → offsT[j]? = some o → offsT[k]? = some o → k = j := by
 intro j k o hj hk h1 h2
 have h : ∀ j < 5, ∀ k < 5, offsT[j]? = offsT[k]? → k = j := by decide
 exact h j hj k hk (h1.trans h2.symm)

theorem infoStr2 : (Tryz.prog.info? 9).map (fun i => (i.zero, i.size, i.bytes)) = some (some (.string ⟨#[]⟩), 1, 16) := by kernel_rfl
theorem eq_text_same (w : World) (a : Addr) : (binOp .eql 95 (.pointer (some a)) (.pointer (some a))).run Tryz.prog w = .ok (.bool true) w := by
 obtain ⟨i0, hi0, hz0, hz1, hz2⟩ := info_parts infoStr2
 exact run_eql_ptr_same w a Tryz.underlying95 hi0
theorem eq_text_other (w : World) (b i j : Nat) (cs : Array Value) (t : TypeId) (hb : w.heap[b]? = some (.cells cs t (0, 0))) (h : i ≠ j) : (binOp .eql 95 (.pointer (some ⟨b, i, none⟩)) (.pointer (some ⟨b, j, none⟩))).run Tryz.prog w = .ok (.bool false) w := by
 obtain ⟨i0, hi0, hz0, hz1, hz2⟩ := info_parts infoStr2
 exact run_eql_ptr_other w Tryz.underlying95 hi0 (by rw [hz1]; decide) (fun e => h (by cases e; rfl)) hb hb

set_option maxHeartbeats 4000000 in
theorem twin_text (t qm qx i j : Nat) (cm cx : Array Value) (ns : Nat → ByteArray) (w0 w : World) (h : TwAt w0 w t qm qx cm cx) (hj : j < 5) (hij : offsT[j]? = some i) (hm : ∀ (o k : Nat), offsT[k]? = some o → cm[o]? = some (Value.string (ns o))) (u : Value) (hx : cx[i]? = some u) :
  Calls Tryz.prog 121 #[.pointer (some ⟨t, 0, none⟩), .pointer (some ⟨qx, i, none⟩)] w (TwPost w0 t qm qx cm (cx.setIfInBounds i (.string (ns i)))) := by
 have c0 : w.cell? ⟨t, 0, none⟩ = some (.pointer (some ⟨qm, 0, none⟩)) := block_cell h.tw 0
 have c1 : w.cell? ⟨t, 1, none⟩ = some (.pointer (some ⟨qx, 0, none⟩)) := block_cell h.tw 1
 replace h := hid h
 replace hij := hid hij
 replace hm := hid hm
 replace hx := hid hx
 go_enter Tryz.func121, Tryz.ntmps121
 go_wp2_with fail
 have hSS := hid (show TwS t qm qx w from ⟨c0, c1⟩)
 refine region_text t qm qx i _ (fun _ _ d _ _ h => by cases d <;> exact h) w hSS.out ?_
 have hpb := heap_alloc_new w.drew (.cells (cells_text qm qx) 171)
 have hst := h.out.drew.same ((Below.refl w.drew.heap.size w.drew).alloc (Nat.le_refl _) (.cells (cells_text qm qx) 171))
 clear c0 c1
 go_wp2_with fail
 have hsz : w.drew.heap.size = w.heap.size := rfl
 have hqx : qx < w.heap.size := lt_of_block h.out.xb
 rw [hsz] at hpb
 have hj1 := hid hj
 replace hpb := hid hpb
 replace hst := hid hst
 clear hj
 go_loopw [73] (fun kv wr => ∃ k : Nat, k ≤ 5 ∧ kv = .int .i64 (k : Int) ∧ TwAt w0 wr t qm qx cm (if j < k then cx.setIfInBounds i (.string (ns i)) else cx) ∧ wr.heap[w.heap.size]? = some (.cells (cells_text qm qx) 171 (0, 0))) (fun kv _ => 5 - (intOf kv).toNat)
 case atStart => exact ⟨0, by omega, rfl, by rw [if_neg (by omega)]; exact hst.out, hpb.out⟩
 case round =>
  obtain ⟨k, hk, rfl, hT, hb⟩ := hrel
  by_cases hk5 : k < 5
  ·obtain ⟨o, ho, hc1, hc2⟩ := offsT_at qm qx k hk5
   have p1 : wr.cell? ⟨w.heap.size, k * 2, none⟩ = some (.pointer (some ⟨qx, o, none⟩)) := (block_cell hb _).trans hc1
   have p2 : wr.cell? ⟨w.heap.size, k * 2 + 1, none⟩ = some (.pointer (some ⟨qm, o, none⟩)) := (block_cell hb _).trans hc2
   have hbl := lt_of_block hb
   have hbb := (Below.refl wr.heap.size wr).alloc (Nat.le_refl _) (.cells #[.pointer (some ⟨qx, o, none⟩), .pointer (some ⟨qm, o, none⟩)] 171)
   have hT2 := hid (hT.same hbb)
   have hb2 := hid ((hbb.block w.heap.size hbl).trans hb)
   have m1 : wr.cell? ⟨qm, o, none⟩ = some (.string (ns o)) := (block_cell hT.mb o).trans (hm.out o k ho)
   have hqm := lt_of_block hT.mb
   have hqx2 := lt_of_block hT.xb
   replace hb := hid hb
   by_cases hoi : o = i
   ·subst hoi
    have hkj : k = j := offsT_one j k o hj1.out hk5 hij.out ho
    subst hkj
    have x1 : wr.cell? ⟨qx, o, none⟩ = some u := by rw [block_cell hT.xb o, if_neg (by omega)]; exact hx.out
    have f1 : wr.frozen? ⟨qx, o, none⟩ = false := block_free hT.xb o
    replace ho := hid ho
    replace hT := hid hT
    have heq := eq_text_same (wr.alloc (.cells #[.pointer (some ⟨qx, o, none⟩), .pointer (some ⟨qm, o, none⟩)] 171)) ⟨qx, o, none⟩
    have hA : Hid (TwAt w0 ((wr.setCell ⟨qx, o, none⟩ (.string (ns o))).alloc (.cells #[.pointer (some ⟨qx, o, none⟩), .pointer (some ⟨qm, o, none⟩)] 171)) t qm qx cm (cx.setIfInBounds o (.string (ns o)))) := hid (by
     have hT0 := hT.out
     rw [if_neg (by omega)] at hT0
     exact (hT0.set o _).same ((Below.refl _ _).alloc (Nat.le_refl _) _))
    have hB : Hid (((wr.setCell ⟨qx, o, none⟩ (.string (ns o))).alloc (.cells #[.pointer (some ⟨qx, o, none⟩), .pointer (some ⟨qm, o, none⟩)] 171)).heap[w.heap.size]? = some (.cells (cells_text qm qx) 171 (0, 0))) := hid (by
     rw [heap_alloc_old _ _ (by simpa using hbl)]
     exact (block_set_other (by show w.heap.size ≠ qx; omega)).trans hb.out)
    go_wp2_with fail
    go_roundw
    case rel => exact ⟨k + 1, by omega, by go_num, by rw [if_pos (by omega)]; exact hA.out, hB.out⟩
    case measure => simp [intOf]; omega
   ·have heq := eq_text_other _ qx o i _ _ hT2.out.xb hoi
    have hkj : Hid (k ≠ j) := hid (fun e => hoi (by subst e; rw [hij.out] at ho; exact (Option.some.inj ho).symm))
    have hif : Hid ((if j < k + 1 then cx.setIfInBounds i (.string (ns i)) else cx) = (if j < k then cx.setIfInBounds i (.string (ns i)) else cx)) := hid (by
     have := hkj.out
     by_cases hjk : j < k
     ·rw [if_pos hjk, if_pos (by omega)]
     ·rw [if_neg hjk, if_neg (by omega)])
    replace ho := hid ho
    replace hT := hid hT
    go_wp2_with fail
    go_roundw
    case rel => exact ⟨k + 1, by omega, by go_num, by rw [hif.out]; exact hT2.out, hb2.out⟩
    case measure => simp [intOf]; omega
  ·obtain rfl : k = 5 := by omega
   rw [if_pos hj1.out] at hT
   replace hT := hid hT
   replace hb := hid hb
   go_wp2_with fail
   go_end0
   exact ⟨rfl, hT.out⟩
end
end Go.Proofs.YtlmojhlacfjmaaaGreat

namespace Go.Proofs.YtlmojhlacfjmaaaGreat
section
open Go.RowKit
set_option maxRecDepth 100000
set_option linter.unusedVariables false

structure MV where
 m : M
 n : Value
 q : Value
 d : Value
def MV.cells (x : MV) : Array Value := x.m.cells x.n x.q x.d
def MV.Ok (x : MV) : Prop := (∃ a n k, x.n = .slice a n k) ∧ (∃ a n k, x.q = .slice a n k) ∧ (∃ a n k, x.d = .slice a n k)
def Slot.copy (a x : MV) : Slot → MV
 | .msize => { x with m := { x.m with msize := a.m.msize } }
 | .version => { x with m := { x.m with version := a.m.version } }
 | .fid => { x with m := { x.m with fid := a.m.fid } }
 | .afid => { x with m := { x.m with afid := a.m.afid } }
 | .new => { x with m := { x.m with new := a.m.new } }
 | .uname => { x with m := { x.m with uname := a.m.uname } }
 | .aname => { x with m := { x.m with aname := a.m.aname } }
 | .ename => { x with m := { x.m with ename := a.m.ename } }
 | .old => { x with m := { x.m with old := a.m.old } }
 | .names => { x with m := { x.m with names := a.m.names }, n := a.n }
 | .qids => { x with m := { x.m with qids := a.m.qids }, q := a.q }
 | .qid => { x with m := { x.m with qid := a.m.qid } }
 | .iounit => { x with m := { x.m with iounit := a.m.iounit } }
 | .mode => { x with m := { x.m with mode := a.m.mode } }
 | .perm => { x with m := { x.m with perm := a.m.perm } }
 | .name => { x with m := { x.m with name := a.m.name } }
 | .offset => { x with m := { x.m with offset := a.m.offset } }
 | .count => { x with m := { x.m with count := a.m.count } }
 | .data => { x with m := { x.m with data := a.m.data }, d := a.d }
 | .stat => { x with m := { x.m with stat := a.m.stat } }
def copies (a : MV) : List Slot → MV → MV
 | [], x => x
 | s :: ss, x => copies a ss (s.copy a x)
def ns32 (m : M) : Nat → Nat := fun o => if o = 2 then m.msize else if o = 4 then m.fid else if o = 5 then m.afid else if o = 6 then m.new else if o = 16 then m.iounit else if o = 18 then m.perm else m.count
def nsT (m : M) : Nat → ByteArray := fun o => if o = 3 then m.version else if o = 7 then m.uname else if o = 8 then m.aname else if o = 9 then m.ename else m.name
theorem ns32_ok (a : MV) : ∀ (o k : Nat), offs32[k]? = some o → a.cells[o]? = some (Value.int .u32 (ns32 a.m o : Int)) := by
 intro o k h
 match k, h with
 | 0, h => cases h; rfl
 | 1, h => cases h; rfl
 | 2, h => cases h; rfl
 | 3, h => cases h; rfl
 | 4, h => cases h; rfl
 | 5, h => cases h; rfl
 | 6, h => cases h; rfl
 | k + 7, h => simp [offs32] at h
theorem nsT_ok (a : MV) : ∀ (o k : Nat), offsT[k]? = some o → a.cells[o]? = some (Value.string (nsT a.m o)) := by
 intro o k h
 match k, h with
 | 0, h => cases h; rfl
 | 1, h => cases h; rfl
 | 2, h => cases h; rfl
 | 3, h => cases h; rfl
 | 4, h => cases h; rfl
 | k + 5, h => simp [offsT] at h
def TA (w0 w : World) (t qm qx : Nat) (a x : MV) : Prop := TwAt w0 w t qm qx a.cells x.cells
def TGood (w0 : World) (t qm qx : Nat) (a x : MV) (e : Ending) (w' : World) : Prop := e = .returned (.tuple #[]) ∧ TA w0 w' t qm qx a x
theorem TA.drew {w0 w : World} {t qm qx : Nat} {a x : MV} (h : TA w0 w t qm qx a x) : TA w0 w.drew t qm qx a x := TwAt.drew h
theorem t_msize (t qm qx : Nat) (a x : MV) (w0 w : World) (hA : TA w0 w t qm qx a x) (hok : a.Ok) :
  Calls Tryz.prog 124 #[.pointer (some ⟨t, 0, none⟩), .pointer (some ⟨qx, 2, none⟩)] w (TGood w0 t qm qx a (Slot.copy a x .msize)) := by
 refine (twin_u32 t qm qx 2 0 a.cells x.cells (ns32 a.m) w0 w hA (by omega) rfl (ns32_ok a) _ rfl).mono ?_
 rintro e w1 ⟨rfl, h1⟩
 exact ⟨rfl, h1⟩
theorem t_version (t qm qx : Nat) (a x : MV) (w0 w : World) (hA : TA w0 w t qm qx a x) (hok : a.Ok) :
  Calls Tryz.prog 121 #[.pointer (some ⟨t, 0, none⟩), .pointer (some ⟨qx, 3, none⟩)] w (TGood w0 t qm qx a (Slot.copy a x .version)) := by
 refine (twin_text t qm qx 3 0 a.cells x.cells (nsT a.m) w0 w hA (by omega) rfl (nsT_ok a) _ rfl).mono ?_
 rintro e w1 ⟨rfl, h1⟩
 exact ⟨rfl, h1⟩
theorem t_fid (t qm qx : Nat) (a x : MV) (w0 w : World) (hA : TA w0 w t qm qx a x) (hok : a.Ok) :
  Calls Tryz.prog 124 #[.pointer (some ⟨t, 0, none⟩), .pointer (some ⟨qx, 4, none⟩)] w (TGood w0 t qm qx a (Slot.copy a x .fid)) := by
 refine (twin_u32 t qm qx 4 1 a.cells x.cells (ns32 a.m) w0 w hA (by omega) rfl (ns32_ok a) _ rfl).mono ?_
 rintro e w1 ⟨rfl, h1⟩
 exact ⟨rfl, h1⟩
theorem t_afid (t qm qx : Nat) (a x : MV) (w0 w : World) (hA : TA w0 w t qm qx a x) (hok : a.Ok) :
  Calls Tryz.prog 124 #[.pointer (some ⟨t, 0, none⟩), .pointer (some ⟨qx, 5, none⟩)] w (TGood w0 t qm qx a (Slot.copy a x .afid)) := by
 refine (twin_u32 t qm qx 5 2 a.cells x.cells (ns32 a.m) w0 w hA (by omega) rfl (ns32_ok a) _ rfl).mono ?_
 rintro e w1 ⟨rfl, h1⟩
 exact ⟨rfl, h1⟩
theorem t_new (t qm qx : Nat) (a x : MV) (w0 w : World) (hA : TA w0 w t qm qx a x) (hok : a.Ok) :
  Calls Tryz.prog 124 #[.pointer (some ⟨t, 0, none⟩), .pointer (some ⟨qx, 6, none⟩)] w (TGood w0 t qm qx a (Slot.copy a x .new)) := by
 refine (twin_u32 t qm qx 6 3 a.cells x.cells (ns32 a.m) w0 w hA (by omega) rfl (ns32_ok a) _ rfl).mono ?_
 rintro e w1 ⟨rfl, h1⟩
 exact ⟨rfl, h1⟩
theorem t_uname (t qm qx : Nat) (a x : MV) (w0 w : World) (hA : TA w0 w t qm qx a x) (hok : a.Ok) :
  Calls Tryz.prog 121 #[.pointer (some ⟨t, 0, none⟩), .pointer (some ⟨qx, 7, none⟩)] w (TGood w0 t qm qx a (Slot.copy a x .uname)) := by
 refine (twin_text t qm qx 7 1 a.cells x.cells (nsT a.m) w0 w hA (by omega) rfl (nsT_ok a) _ rfl).mono ?_
 rintro e w1 ⟨rfl, h1⟩
 exact ⟨rfl, h1⟩
theorem t_aname (t qm qx : Nat) (a x : MV) (w0 w : World) (hA : TA w0 w t qm qx a x) (hok : a.Ok) :
  Calls Tryz.prog 121 #[.pointer (some ⟨t, 0, none⟩), .pointer (some ⟨qx, 8, none⟩)] w (TGood w0 t qm qx a (Slot.copy a x .aname)) := by
 refine (twin_text t qm qx 8 2 a.cells x.cells (nsT a.m) w0 w hA (by omega) rfl (nsT_ok a) _ rfl).mono ?_
 rintro e w1 ⟨rfl, h1⟩
 exact ⟨rfl, h1⟩
theorem t_ename (t qm qx : Nat) (a x : MV) (w0 w : World) (hA : TA w0 w t qm qx a x) (hok : a.Ok) :
  Calls Tryz.prog 121 #[.pointer (some ⟨t, 0, none⟩), .pointer (some ⟨qx, 9, none⟩)] w (TGood w0 t qm qx a (Slot.copy a x .ename)) := by
 refine (twin_text t qm qx 9 3 a.cells x.cells (nsT a.m) w0 w hA (by omega) rfl (nsT_ok a) _ rfl).mono ?_
 rintro e w1 ⟨rfl, h1⟩
 exact ⟨rfl, h1⟩
theorem t_old (t qm qx : Nat) (a x : MV) (w0 w : World) (hA : TA w0 w t qm qx a x) (hok : a.Ok) :
  Calls Tryz.prog 123 #[.pointer (some ⟨t, 0, none⟩), .pointer (some ⟨qx, 10, none⟩)] w (TGood w0 t qm qx a (Slot.copy a x .old)) := by
 refine (twin_u16 t qm qx 10 a.cells x.cells a.m.old _ w0 w hA rfl rfl).mono ?_
 rintro e w1 ⟨rfl, h1⟩
 exact ⟨rfl, h1⟩
theorem t_names (t qm qx : Nat) (a x : MV) (w0 w : World) (hA : TA w0 w t qm qx a x) (hok : a.Ok) :
  Calls Tryz.prog 122 #[.pointer (some ⟨t, 0, none⟩), .pointer (some ⟨qx, 11, none⟩)] w (TGood w0 t qm qx a (Slot.copy a x .names)) := by
 obtain ⟨ad, nn, kk, he⟩ := hok.1
 refine (twin_texts t qm qx 11 a.cells x.cells ad nn kk _ w0 w hA (by show some a.n = _; rw [he]) rfl).mono ?_
 rintro e w1 ⟨rfl, h1⟩
 rw [← he] at h1
 exact ⟨rfl, h1⟩
theorem t_qids (t qm qx : Nat) (a x : MV) (w0 w : World) (hA : TA w0 w t qm qx a x) (hok : a.Ok) :
  Calls Tryz.prog 119 #[.pointer (some ⟨t, 0, none⟩), .pointer (some ⟨qx, 12, none⟩)] w (TGood w0 t qm qx a (Slot.copy a x .qids)) := by
 obtain ⟨ad, nn, kk, he⟩ := hok.2.1
 refine (twin_qids t qm qx 12 a.cells x.cells ad nn kk _ w0 w hA (by show some a.q = _; rw [he]) rfl).mono ?_
 rintro e w1 ⟨rfl, h1⟩
 rw [← he] at h1
 exact ⟨rfl, h1⟩
theorem t_qid (t qm qx : Nat) (a x : MV) (w0 w : World) (hA : TA w0 w t qm qx a x) (hok : a.Ok) :
  Calls Tryz.prog 118 #[.pointer (some ⟨t, 0, none⟩), .pointer (some ⟨qx, 13, none⟩)] w (TGood w0 t qm qx a (Slot.copy a x .qid)) := by
 refine (twin_qid t qm qx 13 a.cells x.cells a.m.qid.t a.m.qid.v a.m.qid.p _ _ _ w0 w hA ⟨rfl, rfl, rfl⟩ ⟨rfl, rfl, rfl⟩).mono ?_
 rintro e w1 ⟨rfl, h1⟩
 exact ⟨rfl, h1⟩
theorem t_iounit (t qm qx : Nat) (a x : MV) (w0 w : World) (hA : TA w0 w t qm qx a x) (hok : a.Ok) :
  Calls Tryz.prog 124 #[.pointer (some ⟨t, 0, none⟩), .pointer (some ⟨qx, 16, none⟩)] w (TGood w0 t qm qx a (Slot.copy a x .iounit)) := by
 refine (twin_u32 t qm qx 16 4 a.cells x.cells (ns32 a.m) w0 w hA (by omega) rfl (ns32_ok a) _ rfl).mono ?_
 rintro e w1 ⟨rfl, h1⟩
 exact ⟨rfl, h1⟩
theorem t_mode (t qm qx : Nat) (a x : MV) (w0 w : World) (hA : TA w0 w t qm qx a x) (hok : a.Ok) :
  Calls Tryz.prog 126 #[.pointer (some ⟨t, 0, none⟩), .pointer (some ⟨qx, 17, none⟩)] w (TGood w0 t qm qx a (Slot.copy a x .mode)) := by
 refine (twin_u8 t qm qx 17 a.cells x.cells a.m.mode _ w0 w hA rfl rfl).mono ?_
 rintro e w1 ⟨rfl, h1⟩
 exact ⟨rfl, h1⟩
theorem t_perm (t qm qx : Nat) (a x : MV) (w0 w : World) (hA : TA w0 w t qm qx a x) (hok : a.Ok) :
  Calls Tryz.prog 124 #[.pointer (some ⟨t, 0, none⟩), .pointer (some ⟨qx, 18, none⟩)] w (TGood w0 t qm qx a (Slot.copy a x .perm)) := by
 refine (twin_u32 t qm qx 18 5 a.cells x.cells (ns32 a.m) w0 w hA (by omega) rfl (ns32_ok a) _ rfl).mono ?_
 rintro e w1 ⟨rfl, h1⟩
 exact ⟨rfl, h1⟩
theorem t_name (t qm qx : Nat) (a x : MV) (w0 w : World) (hA : TA w0 w t qm qx a x) (hok : a.Ok) :
  Calls Tryz.prog 121 #[.pointer (some ⟨t, 0, none⟩), .pointer (some ⟨qx, 19, none⟩)] w (TGood w0 t qm qx a (Slot.copy a x .name)) := by
 refine (twin_text t qm qx 19 4 a.cells x.cells (nsT a.m) w0 w hA (by omega) rfl (nsT_ok a) _ rfl).mono ?_
 rintro e w1 ⟨rfl, h1⟩
 exact ⟨rfl, h1⟩
theorem t_offset (t qm qx : Nat) (a x : MV) (w0 w : World) (hA : TA w0 w t qm qx a x) (hok : a.Ok) :
  Calls Tryz.prog 125 #[.pointer (some ⟨t, 0, none⟩), .pointer (some ⟨qx, 20, none⟩)] w (TGood w0 t qm qx a (Slot.copy a x .offset)) := by
 refine (twin_u64 t qm qx 20 a.cells x.cells a.m.offset _ w0 w hA rfl rfl).mono ?_
 rintro e w1 ⟨rfl, h1⟩
 exact ⟨rfl, h1⟩
theorem t_count (t qm qx : Nat) (a x : MV) (w0 w : World) (hA : TA w0 w t qm qx a x) (hok : a.Ok) :
  Calls Tryz.prog 124 #[.pointer (some ⟨t, 0, none⟩), .pointer (some ⟨qx, 21, none⟩)] w (TGood w0 t qm qx a (Slot.copy a x .count)) := by
 refine (twin_u32 t qm qx 21 6 a.cells x.cells (ns32 a.m) w0 w hA (by omega) rfl (ns32_ok a) _ rfl).mono ?_
 rintro e w1 ⟨rfl, h1⟩
 exact ⟨rfl, h1⟩
theorem t_data (t qm qx : Nat) (a x : MV) (w0 w : World) (hA : TA w0 w t qm qx a x) (hok : a.Ok) :
  Calls Tryz.prog 117 #[.pointer (some ⟨t, 0, none⟩), .pointer (some ⟨qx, 22, none⟩)] w (TGood w0 t qm qx a (Slot.copy a x .data)) := by
 obtain ⟨ad, nn, kk, he⟩ := hok.2.2
 refine (twin_data t qm qx 22 a.cells x.cells ad nn kk _ w0 w hA (by show some a.d = _; rw [he]) rfl).mono ?_
 rintro e w1 ⟨rfl, h1⟩
 rw [← he] at h1
 exact ⟨rfl, h1⟩
theorem t_stat (t qm qx : Nat) (a x : MV) (w0 w : World) (hA : TA w0 w t qm qx a x) (hok : a.Ok) :
  Calls Tryz.prog 120 #[.pointer (some ⟨t, 0, none⟩), .pointer (some ⟨qx, 23, none⟩)] w (TGood w0 t qm qx a (Slot.copy a x .stat)) := by
 refine (twin_stat t qm qx 23 a.cells x.cells a.m.stat.kind a.m.stat.dev a.m.stat.qt a.m.stat.qv a.m.stat.qp a.m.stat.mode a.m.stat.atm a.m.stat.mtm a.m.stat.len a.m.stat.name a.m.stat.uid a.m.stat.gid a.m.stat.muid _ _ _ _ _ _ _ _ _ _ _ _ _ w0 w hA ⟨rfl, rfl, rfl, rfl, rfl, rfl, rfl, rfl, rfl, rfl, rfl, rfl, rfl⟩ ⟨rfl, rfl, rfl, rfl, rfl, rfl, rfl, rfl, rfl, rfl, rfl, rfl, rfl⟩).mono ?_
 rintro e w1 ⟨rfl, rfl⟩
 obtain ⟨s, hs⟩ : ∃ s, s = a.m.stat := ⟨_, rfl⟩
 rw [← hs]
 have e1 : put13 w qx 23 ⟨s.kind, s.dev, s.qt, s.qv, s.qp, s.mode, s.atm, s.mtm, s.len, s.name, s.uid, s.gid, s.muid⟩ = put w qx 23 [.int .u16 (s.kind : Int), .int .u32 (s.dev : Int), .int .u8 (s.qt : Int), .int .u32 (s.qv : Int), .int .u64 (s.qp : Int), .int .u32 (s.mode : Int), .int .u32 (s.atm : Int), .int .u32 (s.mtm : Int), .int .u64 (s.len : Int), .string s.name, .string s.uid, .string s.gid, .string s.muid] := rfl
 rw [e1]
 exact ⟨rfl, (put_other hA.ne.2 _ _ _).trans hA.tw, (put_other hA.ne.1 _ _ _).trans hA.mb, by rw [put_block _ 23 _ _ hA.xb rfl, hs]; rfl, hA.ne, fun k hk => put_below hk _ _ _ _ (hA.below k hk)⟩
end
end Go.Proofs.YtlmojhlacfjmaaaGreat
