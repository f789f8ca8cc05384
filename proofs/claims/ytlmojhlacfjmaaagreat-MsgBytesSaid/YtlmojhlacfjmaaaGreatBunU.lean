/- Texts are equal byte by byte. No condition. And the texts behind it. -/
import Derived.Test.YtlmojhlacfjmaaaGreatBunA
import Derived.Test.YtlmojhlacfjmaaaGreatBunT
import Derived.BigQuiet
import Derived.Deep.QuietTactic
import Derived.Test.YtlmojhlacfjmaaaGreatBunQ
namespace Go.Proofs.YtlmojhlacfjmaaaGreat
section
theorem str_beq (s t : ByteArray) : (s.toList == t.toList) = decide (s = t) := by
 rw [ByteArray.toList_eq, ByteArray.toList_eq]
 by_cases h : s = t
 ·subst h; simp
 ·have h2 : ¬ s.data = t.data := fun e => h (ByteArray.ext e)
  simp [h, h2]
end
end Go.Proofs.YtlmojhlacfjmaaaGreat

namespace Go.Proofs.YtlmojhlacfjmaaaGreat
section
open Go.RowKit
set_option maxRecDepth 100000
set_option linter.unusedVariables false
structure Two (w W : World) (a b : M) (vN1 vQ1 vN2 vQ2 : Value) (d1 d2 : ByteArray) : Prop where
 one : W.heap[w.heap.size]? = some (.cells (a.rcells vN1 vQ1 d1) 46 (0, 0))
 two : W.heap[w.heap.size + 1]? = some (.cells (b.rcells vN2 vQ2 d2) 46 (0, 0))
 bel : Below w.heap.size w W
theorem Two.start {w : World} {a b : M} {vN1 vQ1 vN2 vQ2 : Value} {d1 d2 : ByteArray} : Two w ((w.alloc (.cells (a.rcells vN1 vQ1 d1) 46)).alloc (.cells (b.rcells vN2 vQ2 d2) 46)) a b vN1 vQ1 vN2 vQ2 d1 d2 :=
 ⟨by rw [heap_alloc_old _ _ (by simp), heap_alloc_new], heap2 _ _ _, ((Below.refl w.heap.size w).alloc (Nat.le_refl _) _).alloc (by simp) _⟩
theorem take_eq_len {α : Type} {l m : List α} {k : Nat} (h : l.take k = m.take k) (hl : l.length = k) (hm : m.length = k) : l = m := by
 rw [← List.take_of_length_le (Nat.le_of_eq hl), h, List.take_of_length_le (Nat.le_of_eq hm)]
theorem take_snoc_eq {α : Type} {l m : List α} {k : Nat} (h : l.take k = m.take k) (hl : k < l.length) (hm : k < m.length) (he : l[k] = m[k]) : l.take (k + 1) = m.take (k + 1) := by
 rw [List.take_succ_eq_append_getElem hl, List.take_succ_eq_append_getElem hm, h, he]
def RTextsPost (w : World) (r : Bool) (e : Ending) (w' : World) : Prop := e = .returned (.bool r) ∧ Below w.heap.size w w'

set_option maxHeartbeats 3200000 in
theorem rtexts_100 (a b : M) (vN1 vQ1 vN2 vQ2 : Value) (d1 d2 : ByteArray) (w : World) (hN1 : StrsAt w vN1 a.names) (hN2 : StrsAt w vN2 b.names) (hQ1 : QidsAt w vQ1 a.qids) (hQ2 : QidsAt w vQ2 b.qids) (hf1 : RFew a) (hf2 : RFew b) (ht : a.ty = 100) :
  Calls Tryz.prog 35 #[.agg (a.rcells vN1 vQ1 d1), .agg (b.rcells vN2 vQ2 d2)] w (RTextsPost w (decide (a.version = b.version))) := by
 obtain ⟨W, hW⟩ : ∃ W, W = (w.alloc (.cells (a.rcells vN1 vQ1 d1) 46)).alloc (.cells (b.rcells vN2 vQ2 d2) 46) := ⟨_, rfl⟩
 have hT := hid (show Two w W a b vN1 vQ1 vN2 vQ2 d1 d2 by rw [hW]; exact Two.start)
 have c0 : W.cell? ⟨w.heap.size, 0, none⟩ = some (.int .u8 100) := by rw [block_cell hT.out.one 0]; show some (Value.int .u8 (a.ty : Int)) = _; rw [ht]; rfl
 clear ht
 have c3 : W.cell? ⟨w.heap.size, 3, none⟩ = some (.string a.version) := block_cell hT.out.one 3
 have k3 : W.cell? ⟨w.heap.size + 1, 3, none⟩ = some (.string b.version) := block_cell hT.out.two 3
 obtain ⟨r0, h0⟩ : ∃ r, r = decide (a.version = b.version) := ⟨_, rfl⟩
 have q0 : (a.version.toList == b.version.toList) = r0 := by rw [h0]; exact str_beq _ _
 rw [← h0]
 replace h0 := hid h0
 replace hN1 := hid hN1
 replace hN2 := hid hN2
 replace hQ1 := hid hQ1
 replace hQ2 := hid hQ2
 replace hf1 := hid hf1
 replace hf2 := hid hf2
 simp only [M.rcells, M.cells] at hW ⊢
 all_goals
  go_enter Tryz.func35, Tryz.ntmps35
  go_wp2_with (rw [← hW]; replace hW := hid hW)
  try (rw [← hW]; replace hW := hid hW)
  go_ret
  exact ⟨rfl, hT.out.bel⟩
set_option maxHeartbeats 3200000 in
theorem rtexts_101 (a b : M) (vN1 vQ1 vN2 vQ2 : Value) (d1 d2 : ByteArray) (w : World) (hN1 : StrsAt w vN1 a.names) (hN2 : StrsAt w vN2 b.names) (hQ1 : QidsAt w vQ1 a.qids) (hQ2 : QidsAt w vQ2 b.qids) (hf1 : RFew a) (hf2 : RFew b) (ht : a.ty = 101) :
  Calls Tryz.prog 35 #[.agg (a.rcells vN1 vQ1 d1), .agg (b.rcells vN2 vQ2 d2)] w (RTextsPost w (decide (a.version = b.version))) := by
 obtain ⟨W, hW⟩ : ∃ W, W = (w.alloc (.cells (a.rcells vN1 vQ1 d1) 46)).alloc (.cells (b.rcells vN2 vQ2 d2) 46) := ⟨_, rfl⟩
 have hT := hid (show Two w W a b vN1 vQ1 vN2 vQ2 d1 d2 by rw [hW]; exact Two.start)
 have c0 : W.cell? ⟨w.heap.size, 0, none⟩ = some (.int .u8 101) := by rw [block_cell hT.out.one 0]; show some (Value.int .u8 (a.ty : Int)) = _; rw [ht]; rfl
 clear ht
 have c3 : W.cell? ⟨w.heap.size, 3, none⟩ = some (.string a.version) := block_cell hT.out.one 3
 have k3 : W.cell? ⟨w.heap.size + 1, 3, none⟩ = some (.string b.version) := block_cell hT.out.two 3
 obtain ⟨r0, h0⟩ : ∃ r, r = decide (a.version = b.version) := ⟨_, rfl⟩
 have q0 : (a.version.toList == b.version.toList) = r0 := by rw [h0]; exact str_beq _ _
 rw [← h0]
 replace h0 := hid h0
 replace hN1 := hid hN1
 replace hN2 := hid hN2
 replace hQ1 := hid hQ1
 replace hQ2 := hid hQ2
 replace hf1 := hid hf1
 replace hf2 := hid hf2
 simp only [M.rcells, M.cells] at hW ⊢
 all_goals
  go_enter Tryz.func35, Tryz.ntmps35
  go_wp2_with (rw [← hW]; replace hW := hid hW)
  try (rw [← hW]; replace hW := hid hW)
  go_ret
  exact ⟨rfl, hT.out.bel⟩
set_option maxHeartbeats 3200000 in
theorem rtexts_102 (a b : M) (vN1 vQ1 vN2 vQ2 : Value) (d1 d2 : ByteArray) (w : World) (hN1 : StrsAt w vN1 a.names) (hN2 : StrsAt w vN2 b.names) (hQ1 : QidsAt w vQ1 a.qids) (hQ2 : QidsAt w vQ2 b.qids) (hf1 : RFew a) (hf2 : RFew b) (ht : a.ty = 102) :
  Calls Tryz.prog 35 #[.agg (a.rcells vN1 vQ1 d1), .agg (b.rcells vN2 vQ2 d2)] w (RTextsPost w (decide (a.uname = b.uname) && decide (a.aname = b.aname))) := by
 obtain ⟨W, hW⟩ : ∃ W, W = (w.alloc (.cells (a.rcells vN1 vQ1 d1) 46)).alloc (.cells (b.rcells vN2 vQ2 d2) 46) := ⟨_, rfl⟩
 have hT := hid (show Two w W a b vN1 vQ1 vN2 vQ2 d1 d2 by rw [hW]; exact Two.start)
 have c0 : W.cell? ⟨w.heap.size, 0, none⟩ = some (.int .u8 102) := by rw [block_cell hT.out.one 0]; show some (Value.int .u8 (a.ty : Int)) = _; rw [ht]; rfl
 clear ht
 have c7 : W.cell? ⟨w.heap.size, 7, none⟩ = some (.string a.uname) := block_cell hT.out.one 7
 have k7 : W.cell? ⟨w.heap.size + 1, 7, none⟩ = some (.string b.uname) := block_cell hT.out.two 7
 obtain ⟨r0, h0⟩ : ∃ r, r = decide (a.uname = b.uname) := ⟨_, rfl⟩
 have q0 : (a.uname.toList == b.uname.toList) = r0 := by rw [h0]; exact str_beq _ _
 rw [← h0]
 replace h0 := hid h0
 have c8 : W.cell? ⟨w.heap.size, 8, none⟩ = some (.string a.aname) := block_cell hT.out.one 8
 have k8 : W.cell? ⟨w.heap.size + 1, 8, none⟩ = some (.string b.aname) := block_cell hT.out.two 8
 obtain ⟨r1, h1⟩ : ∃ r, r = decide (a.aname = b.aname) := ⟨_, rfl⟩
 have q1 : (a.aname.toList == b.aname.toList) = r1 := by rw [h1]; exact str_beq _ _
 rw [← h1]
 replace h1 := hid h1
 replace hN1 := hid hN1
 replace hN2 := hid hN2
 replace hQ1 := hid hQ1
 replace hQ2 := hid hQ2
 replace hf1 := hid hf1
 replace hf2 := hid hf2
 simp only [M.rcells, M.cells] at hW ⊢
 cases r0 <;> cases r1
 all_goals
  go_enter Tryz.func35, Tryz.ntmps35
  go_wp2_with (rw [← hW]; replace hW := hid hW)
  try (rw [← hW]; replace hW := hid hW)
  go_ret
  exact ⟨rfl, hT.out.bel⟩
set_option maxHeartbeats 3200000 in
theorem rtexts_103 (a b : M) (vN1 vQ1 vN2 vQ2 : Value) (d1 d2 : ByteArray) (w : World) (hN1 : StrsAt w vN1 a.names) (hN2 : StrsAt w vN2 b.names) (hQ1 : QidsAt w vQ1 a.qids) (hQ2 : QidsAt w vQ2 b.qids) (hf1 : RFew a) (hf2 : RFew b) (ht : a.ty = 103) :
  Calls Tryz.prog 35 #[.agg (a.rcells vN1 vQ1 d1), .agg (b.rcells vN2 vQ2 d2)] w (RTextsPost w true) := by
 obtain ⟨W, hW⟩ : ∃ W, W = (w.alloc (.cells (a.rcells vN1 vQ1 d1) 46)).alloc (.cells (b.rcells vN2 vQ2 d2) 46) := ⟨_, rfl⟩
 have hT := hid (show Two w W a b vN1 vQ1 vN2 vQ2 d1 d2 by rw [hW]; exact Two.start)
 have c0 : W.cell? ⟨w.heap.size, 0, none⟩ = some (.int .u8 103) := by rw [block_cell hT.out.one 0]; show some (Value.int .u8 (a.ty : Int)) = _; rw [ht]; rfl
 clear ht
 replace hN1 := hid hN1
 replace hN2 := hid hN2
 replace hQ1 := hid hQ1
 replace hQ2 := hid hQ2
 replace hf1 := hid hf1
 replace hf2 := hid hf2
 simp only [M.rcells, M.cells] at hW ⊢
 all_goals
  go_enter Tryz.func35, Tryz.ntmps35
  go_wp2_with (rw [← hW]; replace hW := hid hW)
  try (rw [← hW]; replace hW := hid hW)
  go_ret
  exact ⟨rfl, hT.out.bel⟩
set_option maxHeartbeats 3200000 in
theorem rtexts_104 (a b : M) (vN1 vQ1 vN2 vQ2 : Value) (d1 d2 : ByteArray) (w : World) (hN1 : StrsAt w vN1 a.names) (hN2 : StrsAt w vN2 b.names) (hQ1 : QidsAt w vQ1 a.qids) (hQ2 : QidsAt w vQ2 b.qids) (hf1 : RFew a) (hf2 : RFew b) (ht : a.ty = 104) :
  Calls Tryz.prog 35 #[.agg (a.rcells vN1 vQ1 d1), .agg (b.rcells vN2 vQ2 d2)] w (RTextsPost w (decide (a.uname = b.uname) && decide (a.aname = b.aname))) := by
 obtain ⟨W, hW⟩ : ∃ W, W = (w.alloc (.cells (a.rcells vN1 vQ1 d1) 46)).alloc (.cells (b.rcells vN2 vQ2 d2) 46) := ⟨_, rfl⟩
 have hT := hid (show Two w W a b vN1 vQ1 vN2 vQ2 d1 d2 by rw [hW]; exact Two.start)
 have c0 : W.cell? ⟨w.heap.size, 0, none⟩ = some (.int .u8 104) := by rw [block_cell hT.out.one 0]; show some (Value.int .u8 (a.ty : Int)) = _; rw [ht]; rfl
 clear ht
 have c7 : W.cell? ⟨w.heap.size, 7, none⟩ = some (.string a.uname) := block_cell hT.out.one 7
 have k7 : W.cell? ⟨w.heap.size + 1, 7, none⟩ = some (.string b.uname) := block_cell hT.out.two 7
 obtain ⟨r0, h0⟩ : ∃ r, r = decide (a.uname = b.uname) := ⟨_, rfl⟩
 have q0 : (a.uname.toList == b.uname.toList) = r0 := by rw [h0]; exact str_beq _ _
 rw [← h0]
 replace h0 := hid h0
 have c8 : W.cell? ⟨w.heap.size, 8, none⟩ = some (.string a.aname) := block_cell hT.out.one 8
 have k8 : W.cell? ⟨w.heap.size + 1, 8, none⟩ = some (.string b.aname) := block_cell hT.out.two 8
 obtain ⟨r1, h1⟩ : ∃ r, r = decide (a.aname = b.aname) := ⟨_, rfl⟩
 have q1 : (a.aname.toList == b.aname.toList) = r1 := by rw [h1]; exact str_beq _ _
 rw [← h1]
 replace h1 := hid h1
 replace hN1 := hid hN1
 replace hN2 := hid hN2
 replace hQ1 := hid hQ1
 replace hQ2 := hid hQ2
 replace hf1 := hid hf1
 replace hf2 := hid hf2
 simp only [M.rcells, M.cells] at hW ⊢
 cases r0 <;> cases r1
 all_goals
  go_enter Tryz.func35, Tryz.ntmps35
  go_wp2_with (rw [← hW]; replace hW := hid hW)
  try (rw [← hW]; replace hW := hid hW)
  go_ret
  exact ⟨rfl, hT.out.bel⟩
set_option maxHeartbeats 3200000 in
theorem rtexts_105 (a b : M) (vN1 vQ1 vN2 vQ2 : Value) (d1 d2 : ByteArray) (w : World) (hN1 : StrsAt w vN1 a.names) (hN2 : StrsAt w vN2 b.names) (hQ1 : QidsAt w vQ1 a.qids) (hQ2 : QidsAt w vQ2 b.qids) (hf1 : RFew a) (hf2 : RFew b) (ht : a.ty = 105) :
  Calls Tryz.prog 35 #[.agg (a.rcells vN1 vQ1 d1), .agg (b.rcells vN2 vQ2 d2)] w (RTextsPost w true) := by
 obtain ⟨W, hW⟩ : ∃ W, W = (w.alloc (.cells (a.rcells vN1 vQ1 d1) 46)).alloc (.cells (b.rcells vN2 vQ2 d2) 46) := ⟨_, rfl⟩
 have hT := hid (show Two w W a b vN1 vQ1 vN2 vQ2 d1 d2 by rw [hW]; exact Two.start)
 have c0 : W.cell? ⟨w.heap.size, 0, none⟩ = some (.int .u8 105) := by rw [block_cell hT.out.one 0]; show some (Value.int .u8 (a.ty : Int)) = _; rw [ht]; rfl
 clear ht
 replace hN1 := hid hN1
 replace hN2 := hid hN2
 replace hQ1 := hid hQ1
 replace hQ2 := hid hQ2
 replace hf1 := hid hf1
 replace hf2 := hid hf2
 simp only [M.rcells, M.cells] at hW ⊢
 all_goals
  go_enter Tryz.func35, Tryz.ntmps35
  go_wp2_with (rw [← hW]; replace hW := hid hW)
  try (rw [← hW]; replace hW := hid hW)
  go_ret
  exact ⟨rfl, hT.out.bel⟩
set_option maxHeartbeats 3200000 in
theorem rtexts_107 (a b : M) (vN1 vQ1 vN2 vQ2 : Value) (d1 d2 : ByteArray) (w : World) (hN1 : StrsAt w vN1 a.names) (hN2 : StrsAt w vN2 b.names) (hQ1 : QidsAt w vQ1 a.qids) (hQ2 : QidsAt w vQ2 b.qids) (hf1 : RFew a) (hf2 : RFew b) (ht : a.ty = 107) :
  Calls Tryz.prog 35 #[.agg (a.rcells vN1 vQ1 d1), .agg (b.rcells vN2 vQ2 d2)] w (RTextsPost w (decide (a.ename = b.ename))) := by
 obtain ⟨W, hW⟩ : ∃ W, W = (w.alloc (.cells (a.rcells vN1 vQ1 d1) 46)).alloc (.cells (b.rcells vN2 vQ2 d2) 46) := ⟨_, rfl⟩
 have hT := hid (show Two w W a b vN1 vQ1 vN2 vQ2 d1 d2 by rw [hW]; exact Two.start)
 have c0 : W.cell? ⟨w.heap.size, 0, none⟩ = some (.int .u8 107) := by rw [block_cell hT.out.one 0]; show some (Value.int .u8 (a.ty : Int)) = _; rw [ht]; rfl
 clear ht
 have c9 : W.cell? ⟨w.heap.size, 9, none⟩ = some (.string a.ename) := block_cell hT.out.one 9
 have k9 : W.cell? ⟨w.heap.size + 1, 9, none⟩ = some (.string b.ename) := block_cell hT.out.two 9
 obtain ⟨r0, h0⟩ : ∃ r, r = decide (a.ename = b.ename) := ⟨_, rfl⟩
 have q0 : (a.ename.toList == b.ename.toList) = r0 := by rw [h0]; exact str_beq _ _
 rw [← h0]
 replace h0 := hid h0
 replace hN1 := hid hN1
 replace hN2 := hid hN2
 replace hQ1 := hid hQ1
 replace hQ2 := hid hQ2
 replace hf1 := hid hf1
 replace hf2 := hid hf2
 simp only [M.rcells, M.cells] at hW ⊢
 all_goals
  go_enter Tryz.func35, Tryz.ntmps35
  go_wp2_with (rw [← hW]; replace hW := hid hW)
  try (rw [← hW]; replace hW := hid hW)
  go_ret
  exact ⟨rfl, hT.out.bel⟩
set_option maxHeartbeats 3200000 in
theorem rtexts_108 (a b : M) (vN1 vQ1 vN2 vQ2 : Value) (d1 d2 : ByteArray) (w : World) (hN1 : StrsAt w vN1 a.names) (hN2 : StrsAt w vN2 b.names) (hQ1 : QidsAt w vQ1 a.qids) (hQ2 : QidsAt w vQ2 b.qids) (hf1 : RFew a) (hf2 : RFew b) (ht : a.ty = 108) :
  Calls Tryz.prog 35 #[.agg (a.rcells vN1 vQ1 d1), .agg (b.rcells vN2 vQ2 d2)] w (RTextsPost w true) := by
 obtain ⟨W, hW⟩ : ∃ W, W = (w.alloc (.cells (a.rcells vN1 vQ1 d1) 46)).alloc (.cells (b.rcells vN2 vQ2 d2) 46) := ⟨_, rfl⟩
 have hT := hid (show Two w W a b vN1 vQ1 vN2 vQ2 d1 d2 by rw [hW]; exact Two.start)
 have c0 : W.cell? ⟨w.heap.size, 0, none⟩ = some (.int .u8 108) := by rw [block_cell hT.out.one 0]; show some (Value.int .u8 (a.ty : Int)) = _; rw [ht]; rfl
 clear ht
 replace hN1 := hid hN1
 replace hN2 := hid hN2
 replace hQ1 := hid hQ1
 replace hQ2 := hid hQ2
 replace hf1 := hid hf1
 replace hf2 := hid hf2
 simp only [M.rcells, M.cells] at hW ⊢
 all_goals
  go_enter Tryz.func35, Tryz.ntmps35
  go_wp2_with (rw [← hW]; replace hW := hid hW)
  try (rw [← hW]; replace hW := hid hW)
  go_ret
  exact ⟨rfl, hT.out.bel⟩
set_option maxHeartbeats 3200000 in
theorem rtexts_109 (a b : M) (vN1 vQ1 vN2 vQ2 : Value) (d1 d2 : ByteArray) (w : World) (hN1 : StrsAt w vN1 a.names) (hN2 : StrsAt w vN2 b.names) (hQ1 : QidsAt w vQ1 a.qids) (hQ2 : QidsAt w vQ2 b.qids) (hf1 : RFew a) (hf2 : RFew b) (ht : a.ty = 109) :
  Calls Tryz.prog 35 #[.agg (a.rcells vN1 vQ1 d1), .agg (b.rcells vN2 vQ2 d2)] w (RTextsPost w true) := by
 obtain ⟨W, hW⟩ : ∃ W, W = (w.alloc (.cells (a.rcells vN1 vQ1 d1) 46)).alloc (.cells (b.rcells vN2 vQ2 d2) 46) := ⟨_, rfl⟩
 have hT := hid (show Two w W a b vN1 vQ1 vN2 vQ2 d1 d2 by rw [hW]; exact Two.start)
 have c0 : W.cell? ⟨w.heap.size, 0, none⟩ = some (.int .u8 109) := by rw [block_cell hT.out.one 0]; show some (Value.int .u8 (a.ty : Int)) = _; rw [ht]; rfl
 clear ht
 replace hN1 := hid hN1
 replace hN2 := hid hN2
 replace hQ1 := hid hQ1
 replace hQ2 := hid hQ2
 replace hf1 := hid hf1
 replace hf2 := hid hf2
 simp only [M.rcells, M.cells] at hW ⊢
 all_goals
  go_enter Tryz.func35, Tryz.ntmps35
  go_wp2_with (rw [← hW]; replace hW := hid hW)
  try (rw [← hW]; replace hW := hid hW)
  go_ret
  exact ⟨rfl, hT.out.bel⟩
set_option maxHeartbeats 3200000 in
theorem rtexts_110 (a b : M) (vN1 vQ1 vN2 vQ2 : Value) (d1 d2 : ByteArray) (w : World) (hN1 : StrsAt w vN1 a.names) (hN2 : StrsAt w vN2 b.names) (hQ1 : QidsAt w vQ1 a.qids) (hQ2 : QidsAt w vQ2 b.qids) (hf1 : RFew a) (hf2 : RFew b) (ht : a.ty = 110) :
  Calls Tryz.prog 35 #[.agg (a.rcells vN1 vQ1 d1), .agg (b.rcells vN2 vQ2 d2)] w (RTextsPost w (decide (a.names = b.names))) := by
 obtain ⟨a1, x1, rfl, g1, g2⟩ := StrsAt.form hN1
 obtain ⟨a2, x2, rfl, g3, g4⟩ := StrsAt.form hN2
 obtain ⟨W, hW⟩ : ∃ W, W = (w.alloc (.cells (a.rcells (.slice a1 a.names.length x1) vQ1 d1) 46)).alloc (.cells (b.rcells (.slice a2 b.names.length x2) vQ2 d2) 46) := ⟨_, rfl⟩
 have hT := hid (show Two w W a b (.slice a1 a.names.length x1) vQ1 (.slice a2 b.names.length x2) vQ2 d1 d2 by rw [hW]; exact Two.start)
 have c0 : W.cell? ⟨w.heap.size, 0, none⟩ = some (.int .u8 110) := by rw [block_cell hT.out.one 0]; show some (Value.int .u8 (a.ty : Int)) = _; rw [ht]; rfl
 clear ht
 have c11 : W.cell? ⟨w.heap.size, 11, none⟩ = some (.slice a1 a.names.length x1) := block_cell hT.out.one 11
 have k11 : W.cell? ⟨w.heap.size + 1, 11, none⟩ = some (.slice a2 b.names.length x2) := block_cell hT.out.two 11
 have l1 := hf1.names
 have l2 := hf2.names
 unfold maxLen at g2 g4
 replace hN1 := hid (hN1.below hT.out.bel)
 replace hN2 := hid (hN2.below hT.out.bel)
 replace hf1 := hid hf1
 replace hf2 := hid hf2
 simp only [M.rcells, M.cells] at hW ⊢
 go_enter Tryz.func35, Tryz.ntmps35
 go_wp2_with (rw [← hW]; replace hW := hid hW)
 try (rw [← hW]; replace hW := hid hW)
 clear c0 c11 k11
 go_loopw [5] (fun kv wr => ∃ k : Nat, k ≤ a.names.length ∧ k ≤ b.names.length ∧ kv = .int .i64 (k : Int) ∧ Hid (a.names.take k = b.names.take k) ∧ Hid (Below W.heap.size W wr)) (fun kv _ => a.names.length - (intOf kv).toNat)
 case atStart => exact ⟨0, by omega, by omega, rfl, hid rfl, hid (Below.refl _ _)⟩
 case round =>
  obtain ⟨k, hk1, hk2, rfl, he, hB⟩ := hrel
  have c11 : wr.cell? ⟨w.heap.size, 11, none⟩ = some (.slice a1 a.names.length x1) := block_cell ((hB.out.block _ (lt_of_block hT.out.one)).trans hT.out.one) 11
  have k11 : wr.cell? ⟨w.heap.size + 1, 11, none⟩ = some (.slice a2 b.names.length x2) := block_cell ((hB.out.block _ (lt_of_block hT.out.two)).trans hT.out.two) 11
  by_cases hka : k < a.names.length
  ·by_cases hkb : k < b.names.length
   ·obtain ⟨b1, o1, rfl, hc1⟩ := StrsAt.cell (hN1.out.below hB.out) k hka
    obtain ⟨b2, o2, rfl, hc2⟩ := StrsAt.cell (hN2.out.below hB.out) k hkb
    have hsn := hid (fun h => take_snoc_eq he.out hka hkb h)
    have hne := hid (show a.names[k] ≠ b.names[k] → a.names ≠ b.names from fun h e => h (by simp [e]))
    generalize a.names[k] = s1 at hc1 hsn hne
    generalize b.names[k] = s2 at hc2 hsn hne
    have hr : (s1.toList == s2.toList) = decide (s1 = s2) := str_beq s1 s2
    by_cases hs : s1 = s2
    ·rw [decide_eq_true hs] at hr
     replace hs := hid hs
     go_wp2_with fail
     go_quiet (fail)
     go_wp2_with fail
     go_roundw
     case rel => exact ⟨k + 1, by omega, by omega, by go_num, hid (hsn.out hs.out), hid (by exact hB.out.trans (by first | exact (bdrewN (Below.refl _ _) _).mono hB.out.size))⟩
     case measure => simp [intOf]; omega
    ·rw [decide_eq_false hs] at hr
     have hfin := hid (show decide (a.names = b.names) = false from decide_eq_false (hne.out hs))
     clear hs
     go_wp2_with fail
     go_quiet (fail)
     go_wp2_with fail
     go_ret
     exact ⟨by rw [hfin.out] <;> rfl, sn hT.out.bel (hB.out.trans (by first | exact (bdrewN (Below.refl _ _) _).mono hB.out.size))⟩
   ·obtain rfl : k = b.names.length := by omega
    have hfin := hid (show decide (a.names = b.names) = false from decide_eq_false (fun e => by have := congrArg List.length e; omega))
    have q1 : ((a.names.length : Int) == (b.names.length : Int)) = false := by rw [beq_eq_false_iff_ne]; omega
    go_wp2_with fail
    go_ret
    exact ⟨by rw [hfin.out] <;> rfl, sn hT.out.bel hB.out⟩
  ·obtain rfl : k = a.names.length := by omega
   obtain ⟨r1, h1⟩ : ∃ r, r = decide (a.names = b.names) := ⟨_, rfl⟩
   have q1 : ((a.names.length : Int) == (b.names.length : Int)) = r1 := by
    rw [h1, Bool.eq_iff_iff]
    simp only [beq_iff_eq, decide_eq_true_eq]
    exact ⟨fun h => take_eq_len he.out rfl (by omega), fun h => by rw [h]⟩
   replace h1 := hid h1
   go_wp2_with fail
   go_ret
   exact ⟨by rw [← h1.out] <;> rfl, sn hT.out.bel hB.out⟩
set_option maxHeartbeats 3200000 in
theorem rtexts_111 (a b : M) (vN1 vQ1 vN2 vQ2 : Value) (d1 d2 : ByteArray) (w : World) (hN1 : StrsAt w vN1 a.names) (hN2 : StrsAt w vN2 b.names) (hQ1 : QidsAt w vQ1 a.qids) (hQ2 : QidsAt w vQ2 b.qids) (hf1 : RFew a) (hf2 : RFew b) (ht : a.ty = 111) :
  Calls Tryz.prog 35 #[.agg (a.rcells vN1 vQ1 d1), .agg (b.rcells vN2 vQ2 d2)] w (RTextsPost w (decide (a.qids.length = b.qids.length))) := by
 obtain ⟨a1, x1, rfl, g1, g2⟩ := QidsAt.form hQ1
 obtain ⟨a2, x2, rfl, g3, g4⟩ := QidsAt.form hQ2
 obtain ⟨W, hW⟩ : ∃ W, W = (w.alloc (.cells (a.rcells vN1 (.slice a1 a.qids.length x1) d1) 46)).alloc (.cells (b.rcells vN2 (.slice a2 b.qids.length x2) d2) 46) := ⟨_, rfl⟩
 have hT := hid (show Two w W a b vN1 (.slice a1 a.qids.length x1) vN2 (.slice a2 b.qids.length x2) d1 d2 by rw [hW]; exact Two.start)
 have c0 : W.cell? ⟨w.heap.size, 0, none⟩ = some (.int .u8 111) := by rw [block_cell hT.out.one 0]; show some (Value.int .u8 (a.ty : Int)) = _; rw [ht]; rfl
 clear ht
 have c12 : W.cell? ⟨w.heap.size, 12, none⟩ = some (.slice a1 a.qids.length x1) := block_cell hT.out.one 12
 have k12 : W.cell? ⟨w.heap.size + 1, 12, none⟩ = some (.slice a2 b.qids.length x2) := block_cell hT.out.two 12
 obtain ⟨r1, h1⟩ : ∃ r, r = decide (a.qids.length = b.qids.length) := ⟨_, rfl⟩
 have q1 : ((a.qids.length : Int) == (b.qids.length : Int)) = r1 := by rw [h1, Bool.eq_iff_iff]; simp; omega
 rw [← h1]
 replace h1 := hid h1
 unfold maxLen at g2 g4
 replace hN1 := hid hN1
 replace hN2 := hid hN2
 replace hQ1 := hid hQ1
 replace hQ2 := hid hQ2
 replace hf1 := hid hf1
 replace hf2 := hid hf2
 simp only [M.rcells, M.cells] at hW ⊢
 all_goals
  go_enter Tryz.func35, Tryz.ntmps35
  go_wp2_with (rw [← hW]; replace hW := hid hW)
  try (rw [← hW]; replace hW := hid hW)
  go_ret
  exact ⟨rfl, hT.out.bel⟩
set_option maxHeartbeats 3200000 in
theorem rtexts_112 (a b : M) (vN1 vQ1 vN2 vQ2 : Value) (d1 d2 : ByteArray) (w : World) (hN1 : StrsAt w vN1 a.names) (hN2 : StrsAt w vN2 b.names) (hQ1 : QidsAt w vQ1 a.qids) (hQ2 : QidsAt w vQ2 b.qids) (hf1 : RFew a) (hf2 : RFew b) (ht : a.ty = 112) :
  Calls Tryz.prog 35 #[.agg (a.rcells vN1 vQ1 d1), .agg (b.rcells vN2 vQ2 d2)] w (RTextsPost w true) := by
 obtain ⟨W, hW⟩ : ∃ W, W = (w.alloc (.cells (a.rcells vN1 vQ1 d1) 46)).alloc (.cells (b.rcells vN2 vQ2 d2) 46) := ⟨_, rfl⟩
 have hT := hid (show Two w W a b vN1 vQ1 vN2 vQ2 d1 d2 by rw [hW]; exact Two.start)
 have c0 : W.cell? ⟨w.heap.size, 0, none⟩ = some (.int .u8 112) := by rw [block_cell hT.out.one 0]; show some (Value.int .u8 (a.ty : Int)) = _; rw [ht]; rfl
 clear ht
 replace hN1 := hid hN1
 replace hN2 := hid hN2
 replace hQ1 := hid hQ1
 replace hQ2 := hid hQ2
 replace hf1 := hid hf1
 replace hf2 := hid hf2
 simp only [M.rcells, M.cells] at hW ⊢
 all_goals
  go_enter Tryz.func35, Tryz.ntmps35
  go_wp2_with (rw [← hW]; replace hW := hid hW)
  try (rw [← hW]; replace hW := hid hW)
  go_ret
  exact ⟨rfl, hT.out.bel⟩
set_option maxHeartbeats 3200000 in
theorem rtexts_113 (a b : M) (vN1 vQ1 vN2 vQ2 : Value) (d1 d2 : ByteArray) (w : World) (hN1 : StrsAt w vN1 a.names) (hN2 : StrsAt w vN2 b.names) (hQ1 : QidsAt w vQ1 a.qids) (hQ2 : QidsAt w vQ2 b.qids) (hf1 : RFew a) (hf2 : RFew b) (ht : a.ty = 113) :
  Calls Tryz.prog 35 #[.agg (a.rcells vN1 vQ1 d1), .agg (b.rcells vN2 vQ2 d2)] w (RTextsPost w true) := by
 obtain ⟨W, hW⟩ : ∃ W, W = (w.alloc (.cells (a.rcells vN1 vQ1 d1) 46)).alloc (.cells (b.rcells vN2 vQ2 d2) 46) := ⟨_, rfl⟩
 have hT := hid (show Two w W a b vN1 vQ1 vN2 vQ2 d1 d2 by rw [hW]; exact Two.start)
 have c0 : W.cell? ⟨w.heap.size, 0, none⟩ = some (.int .u8 113) := by rw [block_cell hT.out.one 0]; show some (Value.int .u8 (a.ty : Int)) = _; rw [ht]; rfl
 clear ht
 replace hN1 := hid hN1
 replace hN2 := hid hN2
 replace hQ1 := hid hQ1
 replace hQ2 := hid hQ2
 replace hf1 := hid hf1
 replace hf2 := hid hf2
 simp only [M.rcells, M.cells] at hW ⊢
 all_goals
  go_enter Tryz.func35, Tryz.ntmps35
  go_wp2_with (rw [← hW]; replace hW := hid hW)
  try (rw [← hW]; replace hW := hid hW)
  go_ret
  exact ⟨rfl, hT.out.bel⟩
set_option maxHeartbeats 3200000 in
theorem rtexts_114 (a b : M) (vN1 vQ1 vN2 vQ2 : Value) (d1 d2 : ByteArray) (w : World) (hN1 : StrsAt w vN1 a.names) (hN2 : StrsAt w vN2 b.names) (hQ1 : QidsAt w vQ1 a.qids) (hQ2 : QidsAt w vQ2 b.qids) (hf1 : RFew a) (hf2 : RFew b) (ht : a.ty = 114) :
  Calls Tryz.prog 35 #[.agg (a.rcells vN1 vQ1 d1), .agg (b.rcells vN2 vQ2 d2)] w (RTextsPost w (decide (a.name = b.name))) := by
 obtain ⟨W, hW⟩ : ∃ W, W = (w.alloc (.cells (a.rcells vN1 vQ1 d1) 46)).alloc (.cells (b.rcells vN2 vQ2 d2) 46) := ⟨_, rfl⟩
 have hT := hid (show Two w W a b vN1 vQ1 vN2 vQ2 d1 d2 by rw [hW]; exact Two.start)
 have c0 : W.cell? ⟨w.heap.size, 0, none⟩ = some (.int .u8 114) := by rw [block_cell hT.out.one 0]; show some (Value.int .u8 (a.ty : Int)) = _; rw [ht]; rfl
 clear ht
 have c19 : W.cell? ⟨w.heap.size, 19, none⟩ = some (.string a.name) := block_cell hT.out.one 19
 have k19 : W.cell? ⟨w.heap.size + 1, 19, none⟩ = some (.string b.name) := block_cell hT.out.two 19
 obtain ⟨r0, h0⟩ : ∃ r, r = decide (a.name = b.name) := ⟨_, rfl⟩
 have q0 : (a.name.toList == b.name.toList) = r0 := by rw [h0]; exact str_beq _ _
 rw [← h0]
 replace h0 := hid h0
 replace hN1 := hid hN1
 replace hN2 := hid hN2
 replace hQ1 := hid hQ1
 replace hQ2 := hid hQ2
 replace hf1 := hid hf1
 replace hf2 := hid hf2
 simp only [M.rcells, M.cells] at hW ⊢
 all_goals
  go_enter Tryz.func35, Tryz.ntmps35
  go_wp2_with (rw [← hW]; replace hW := hid hW)
  try (rw [← hW]; replace hW := hid hW)
  go_ret
  exact ⟨rfl, hT.out.bel⟩
set_option maxHeartbeats 3200000 in
theorem rtexts_115 (a b : M) (vN1 vQ1 vN2 vQ2 : Value) (d1 d2 : ByteArray) (w : World) (hN1 : StrsAt w vN1 a.names) (hN2 : StrsAt w vN2 b.names) (hQ1 : QidsAt w vQ1 a.qids) (hQ2 : QidsAt w vQ2 b.qids) (hf1 : RFew a) (hf2 : RFew b) (ht : a.ty = 115) :
  Calls Tryz.prog 35 #[.agg (a.rcells vN1 vQ1 d1), .agg (b.rcells vN2 vQ2 d2)] w (RTextsPost w true) := by
 obtain ⟨W, hW⟩ : ∃ W, W = (w.alloc (.cells (a.rcells vN1 vQ1 d1) 46)).alloc (.cells (b.rcells vN2 vQ2 d2) 46) := ⟨_, rfl⟩
 have hT := hid (show Two w W a b vN1 vQ1 vN2 vQ2 d1 d2 by rw [hW]; exact Two.start)
 have c0 : W.cell? ⟨w.heap.size, 0, none⟩ = some (.int .u8 115) := by rw [block_cell hT.out.one 0]; show some (Value.int .u8 (a.ty : Int)) = _; rw [ht]; rfl
 clear ht
 replace hN1 := hid hN1
 replace hN2 := hid hN2
 replace hQ1 := hid hQ1
 replace hQ2 := hid hQ2
 replace hf1 := hid hf1
 replace hf2 := hid hf2
 simp only [M.rcells, M.cells] at hW ⊢
 all_goals
  go_enter Tryz.func35, Tryz.ntmps35
  go_wp2_with (rw [← hW]; replace hW := hid hW)
  try (rw [← hW]; replace hW := hid hW)
  go_ret
  exact ⟨rfl, hT.out.bel⟩
set_option maxHeartbeats 3200000 in
theorem rtexts_116 (a b : M) (vN1 vQ1 vN2 vQ2 : Value) (d1 d2 : ByteArray) (w : World) (hN1 : StrsAt w vN1 a.names) (hN2 : StrsAt w vN2 b.names) (hQ1 : QidsAt w vQ1 a.qids) (hQ2 : QidsAt w vQ2 b.qids) (hf1 : RFew a) (hf2 : RFew b) (ht : a.ty = 116) :
  Calls Tryz.prog 35 #[.agg (a.rcells vN1 vQ1 d1), .agg (b.rcells vN2 vQ2 d2)] w (RTextsPost w true) := by
 obtain ⟨W, hW⟩ : ∃ W, W = (w.alloc (.cells (a.rcells vN1 vQ1 d1) 46)).alloc (.cells (b.rcells vN2 vQ2 d2) 46) := ⟨_, rfl⟩
 have hT := hid (show Two w W a b vN1 vQ1 vN2 vQ2 d1 d2 by rw [hW]; exact Two.start)
 have c0 : W.cell? ⟨w.heap.size, 0, none⟩ = some (.int .u8 116) := by rw [block_cell hT.out.one 0]; show some (Value.int .u8 (a.ty : Int)) = _; rw [ht]; rfl
 clear ht
 replace hN1 := hid hN1
 replace hN2 := hid hN2
 replace hQ1 := hid hQ1
 replace hQ2 := hid hQ2
 replace hf1 := hid hf1
 replace hf2 := hid hf2
 simp only [M.rcells, M.cells] at hW ⊢
 all_goals
  go_enter Tryz.func35, Tryz.ntmps35
  go_wp2_with (rw [← hW]; replace hW := hid hW)
  try (rw [← hW]; replace hW := hid hW)
  go_ret
  exact ⟨rfl, hT.out.bel⟩
set_option maxHeartbeats 3200000 in
theorem rtexts_117 (a b : M) (vN1 vQ1 vN2 vQ2 : Value) (d1 d2 : ByteArray) (w : World) (hN1 : StrsAt w vN1 a.names) (hN2 : StrsAt w vN2 b.names) (hQ1 : QidsAt w vQ1 a.qids) (hQ2 : QidsAt w vQ2 b.qids) (hf1 : RFew a) (hf2 : RFew b) (ht : a.ty = 117) :
  Calls Tryz.prog 35 #[.agg (a.rcells vN1 vQ1 d1), .agg (b.rcells vN2 vQ2 d2)] w (RTextsPost w true) := by
 obtain ⟨W, hW⟩ : ∃ W, W = (w.alloc (.cells (a.rcells vN1 vQ1 d1) 46)).alloc (.cells (b.rcells vN2 vQ2 d2) 46) := ⟨_, rfl⟩
 have hT := hid (show Two w W a b vN1 vQ1 vN2 vQ2 d1 d2 by rw [hW]; exact Two.start)
 have c0 : W.cell? ⟨w.heap.size, 0, none⟩ = some (.int .u8 117) := by rw [block_cell hT.out.one 0]; show some (Value.int .u8 (a.ty : Int)) = _; rw [ht]; rfl
 clear ht
 replace hN1 := hid hN1
 replace hN2 := hid hN2
 replace hQ1 := hid hQ1
 replace hQ2 := hid hQ2
 replace hf1 := hid hf1
 replace hf2 := hid hf2
 simp only [M.rcells, M.cells] at hW ⊢
 all_goals
  go_enter Tryz.func35, Tryz.ntmps35
  go_wp2_with (rw [← hW]; replace hW := hid hW)
  try (rw [← hW]; replace hW := hid hW)
  go_ret
  exact ⟨rfl, hT.out.bel⟩
set_option maxHeartbeats 3200000 in
theorem rtexts_118 (a b : M) (vN1 vQ1 vN2 vQ2 : Value) (d1 d2 : ByteArray) (w : World) (hN1 : StrsAt w vN1 a.names) (hN2 : StrsAt w vN2 b.names) (hQ1 : QidsAt w vQ1 a.qids) (hQ2 : QidsAt w vQ2 b.qids) (hf1 : RFew a) (hf2 : RFew b) (ht : a.ty = 118) :
  Calls Tryz.prog 35 #[.agg (a.rcells vN1 vQ1 d1), .agg (b.rcells vN2 vQ2 d2)] w (RTextsPost w true) := by
 obtain ⟨W, hW⟩ : ∃ W, W = (w.alloc (.cells (a.rcells vN1 vQ1 d1) 46)).alloc (.cells (b.rcells vN2 vQ2 d2) 46) := ⟨_, rfl⟩
 have hT := hid (show Two w W a b vN1 vQ1 vN2 vQ2 d1 d2 by rw [hW]; exact Two.start)
 have c0 : W.cell? ⟨w.heap.size, 0, none⟩ = some (.int .u8 118) := by rw [block_cell hT.out.one 0]; show some (Value.int .u8 (a.ty : Int)) = _; rw [ht]; rfl
 clear ht
 replace hN1 := hid hN1
 replace hN2 := hid hN2
 replace hQ1 := hid hQ1
 replace hQ2 := hid hQ2
 replace hf1 := hid hf1
 replace hf2 := hid hf2
 simp only [M.rcells, M.cells] at hW ⊢
 all_goals
  go_enter Tryz.func35, Tryz.ntmps35
  go_wp2_with (rw [← hW]; replace hW := hid hW)
  try (rw [← hW]; replace hW := hid hW)
  go_ret
  exact ⟨rfl, hT.out.bel⟩
set_option maxHeartbeats 3200000 in
theorem rtexts_119 (a b : M) (vN1 vQ1 vN2 vQ2 : Value) (d1 d2 : ByteArray) (w : World) (hN1 : StrsAt w vN1 a.names) (hN2 : StrsAt w vN2 b.names) (hQ1 : QidsAt w vQ1 a.qids) (hQ2 : QidsAt w vQ2 b.qids) (hf1 : RFew a) (hf2 : RFew b) (ht : a.ty = 119) :
  Calls Tryz.prog 35 #[.agg (a.rcells vN1 vQ1 d1), .agg (b.rcells vN2 vQ2 d2)] w (RTextsPost w true) := by
 obtain ⟨W, hW⟩ : ∃ W, W = (w.alloc (.cells (a.rcells vN1 vQ1 d1) 46)).alloc (.cells (b.rcells vN2 vQ2 d2) 46) := ⟨_, rfl⟩
 have hT := hid (show Two w W a b vN1 vQ1 vN2 vQ2 d1 d2 by rw [hW]; exact Two.start)
 have c0 : W.cell? ⟨w.heap.size, 0, none⟩ = some (.int .u8 119) := by rw [block_cell hT.out.one 0]; show some (Value.int .u8 (a.ty : Int)) = _; rw [ht]; rfl
 clear ht
 replace hN1 := hid hN1
 replace hN2 := hid hN2
 replace hQ1 := hid hQ1
 replace hQ2 := hid hQ2
 replace hf1 := hid hf1
 replace hf2 := hid hf2
 simp only [M.rcells, M.cells] at hW ⊢
 all_goals
  go_enter Tryz.func35, Tryz.ntmps35
  go_wp2_with (rw [← hW]; replace hW := hid hW)
  try (rw [← hW]; replace hW := hid hW)
  go_ret
  exact ⟨rfl, hT.out.bel⟩
set_option maxHeartbeats 3200000 in
theorem rtexts_120 (a b : M) (vN1 vQ1 vN2 vQ2 : Value) (d1 d2 : ByteArray) (w : World) (hN1 : StrsAt w vN1 a.names) (hN2 : StrsAt w vN2 b.names) (hQ1 : QidsAt w vQ1 a.qids) (hQ2 : QidsAt w vQ2 b.qids) (hf1 : RFew a) (hf2 : RFew b) (ht : a.ty = 120) :
  Calls Tryz.prog 35 #[.agg (a.rcells vN1 vQ1 d1), .agg (b.rcells vN2 vQ2 d2)] w (RTextsPost w true) := by
 obtain ⟨W, hW⟩ : ∃ W, W = (w.alloc (.cells (a.rcells vN1 vQ1 d1) 46)).alloc (.cells (b.rcells vN2 vQ2 d2) 46) := ⟨_, rfl⟩
 have hT := hid (show Two w W a b vN1 vQ1 vN2 vQ2 d1 d2 by rw [hW]; exact Two.start)
 have c0 : W.cell? ⟨w.heap.size, 0, none⟩ = some (.int .u8 120) := by rw [block_cell hT.out.one 0]; show some (Value.int .u8 (a.ty : Int)) = _; rw [ht]; rfl
 clear ht
 replace hN1 := hid hN1
 replace hN2 := hid hN2
 replace hQ1 := hid hQ1
 replace hQ2 := hid hQ2
 replace hf1 := hid hf1
 replace hf2 := hid hf2
 simp only [M.rcells, M.cells] at hW ⊢
 all_goals
  go_enter Tryz.func35, Tryz.ntmps35
  go_wp2_with (rw [← hW]; replace hW := hid hW)
  try (rw [← hW]; replace hW := hid hW)
  go_ret
  exact ⟨rfl, hT.out.bel⟩
set_option maxHeartbeats 3200000 in
theorem rtexts_121 (a b : M) (vN1 vQ1 vN2 vQ2 : Value) (d1 d2 : ByteArray) (w : World) (hN1 : StrsAt w vN1 a.names) (hN2 : StrsAt w vN2 b.names) (hQ1 : QidsAt w vQ1 a.qids) (hQ2 : QidsAt w vQ2 b.qids) (hf1 : RFew a) (hf2 : RFew b) (ht : a.ty = 121) :
  Calls Tryz.prog 35 #[.agg (a.rcells vN1 vQ1 d1), .agg (b.rcells vN2 vQ2 d2)] w (RTextsPost w true) := by
 obtain ⟨W, hW⟩ : ∃ W, W = (w.alloc (.cells (a.rcells vN1 vQ1 d1) 46)).alloc (.cells (b.rcells vN2 vQ2 d2) 46) := ⟨_, rfl⟩
 have hT := hid (show Two w W a b vN1 vQ1 vN2 vQ2 d1 d2 by rw [hW]; exact Two.start)
 have c0 : W.cell? ⟨w.heap.size, 0, none⟩ = some (.int .u8 121) := by rw [block_cell hT.out.one 0]; show some (Value.int .u8 (a.ty : Int)) = _; rw [ht]; rfl
 clear ht
 replace hN1 := hid hN1
 replace hN2 := hid hN2
 replace hQ1 := hid hQ1
 replace hQ2 := hid hQ2
 replace hf1 := hid hf1
 replace hf2 := hid hf2
 simp only [M.rcells, M.cells] at hW ⊢
 all_goals
  go_enter Tryz.func35, Tryz.ntmps35
  go_wp2_with (rw [← hW]; replace hW := hid hW)
  try (rw [← hW]; replace hW := hid hW)
  go_ret
  exact ⟨rfl, hT.out.bel⟩
set_option maxHeartbeats 3200000 in
theorem rtexts_122 (a b : M) (vN1 vQ1 vN2 vQ2 : Value) (d1 d2 : ByteArray) (w : World) (hN1 : StrsAt w vN1 a.names) (hN2 : StrsAt w vN2 b.names) (hQ1 : QidsAt w vQ1 a.qids) (hQ2 : QidsAt w vQ2 b.qids) (hf1 : RFew a) (hf2 : RFew b) (ht : a.ty = 122) :
  Calls Tryz.prog 35 #[.agg (a.rcells vN1 vQ1 d1), .agg (b.rcells vN2 vQ2 d2)] w (RTextsPost w true) := by
 obtain ⟨W, hW⟩ : ∃ W, W = (w.alloc (.cells (a.rcells vN1 vQ1 d1) 46)).alloc (.cells (b.rcells vN2 vQ2 d2) 46) := ⟨_, rfl⟩
 have hT := hid (show Two w W a b vN1 vQ1 vN2 vQ2 d1 d2 by rw [hW]; exact Two.start)
 have c0 : W.cell? ⟨w.heap.size, 0, none⟩ = some (.int .u8 122) := by rw [block_cell hT.out.one 0]; show some (Value.int .u8 (a.ty : Int)) = _; rw [ht]; rfl
 clear ht
 replace hN1 := hid hN1
 replace hN2 := hid hN2
 replace hQ1 := hid hQ1
 replace hQ2 := hid hQ2
 replace hf1 := hid hf1
 replace hf2 := hid hf2
 simp only [M.rcells, M.cells] at hW ⊢
 all_goals
  go_enter Tryz.func35, Tryz.ntmps35
  go_wp2_with (rw [← hW]; replace hW := hid hW)
  try (rw [← hW]; replace hW := hid hW)
  go_ret
  exact ⟨rfl, hT.out.bel⟩
set_option maxHeartbeats 3200000 in
theorem rtexts_123 (a b : M) (vN1 vQ1 vN2 vQ2 : Value) (d1 d2 : ByteArray) (w : World) (hN1 : StrsAt w vN1 a.names) (hN2 : StrsAt w vN2 b.names) (hQ1 : QidsAt w vQ1 a.qids) (hQ2 : QidsAt w vQ2 b.qids) (hf1 : RFew a) (hf2 : RFew b) (ht : a.ty = 123) :
  Calls Tryz.prog 35 #[.agg (a.rcells vN1 vQ1 d1), .agg (b.rcells vN2 vQ2 d2)] w (RTextsPost w true) := by
 obtain ⟨W, hW⟩ : ∃ W, W = (w.alloc (.cells (a.rcells vN1 vQ1 d1) 46)).alloc (.cells (b.rcells vN2 vQ2 d2) 46) := ⟨_, rfl⟩
 have hT := hid (show Two w W a b vN1 vQ1 vN2 vQ2 d1 d2 by rw [hW]; exact Two.start)
 have c0 : W.cell? ⟨w.heap.size, 0, none⟩ = some (.int .u8 123) := by rw [block_cell hT.out.one 0]; show some (Value.int .u8 (a.ty : Int)) = _; rw [ht]; rfl
 clear ht
 replace hN1 := hid hN1
 replace hN2 := hid hN2
 replace hQ1 := hid hQ1
 replace hQ2 := hid hQ2
 replace hf1 := hid hf1
 replace hf2 := hid hf2
 simp only [M.rcells, M.cells] at hW ⊢
 all_goals
  go_enter Tryz.func35, Tryz.ntmps35
  go_wp2_with (rw [← hW]; replace hW := hid hW)
  try (rw [← hW]; replace hW := hid hW)
  go_ret
  exact ⟨rfl, hT.out.bel⟩
set_option maxHeartbeats 3200000 in
theorem rtexts_124 (a b : M) (vN1 vQ1 vN2 vQ2 : Value) (d1 d2 : ByteArray) (w : World) (hN1 : StrsAt w vN1 a.names) (hN2 : StrsAt w vN2 b.names) (hQ1 : QidsAt w vQ1 a.qids) (hQ2 : QidsAt w vQ2 b.qids) (hf1 : RFew a) (hf2 : RFew b) (ht : a.ty = 124) :
  Calls Tryz.prog 35 #[.agg (a.rcells vN1 vQ1 d1), .agg (b.rcells vN2 vQ2 d2)] w (RTextsPost w true) := by
 obtain ⟨W, hW⟩ : ∃ W, W = (w.alloc (.cells (a.rcells vN1 vQ1 d1) 46)).alloc (.cells (b.rcells vN2 vQ2 d2) 46) := ⟨_, rfl⟩
 have hT := hid (show Two w W a b vN1 vQ1 vN2 vQ2 d1 d2 by rw [hW]; exact Two.start)
 have c0 : W.cell? ⟨w.heap.size, 0, none⟩ = some (.int .u8 124) := by rw [block_cell hT.out.one 0]; show some (Value.int .u8 (a.ty : Int)) = _; rw [ht]; rfl
 clear ht
 replace hN1 := hid hN1
 replace hN2 := hid hN2
 replace hQ1 := hid hQ1
 replace hQ2 := hid hQ2
 replace hf1 := hid hf1
 replace hf2 := hid hf2
 simp only [M.rcells, M.cells] at hW ⊢
 all_goals
  go_enter Tryz.func35, Tryz.ntmps35
  go_wp2_with (rw [← hW]; replace hW := hid hW)
  try (rw [← hW]; replace hW := hid hW)
  go_ret
  exact ⟨rfl, hT.out.bel⟩
set_option maxHeartbeats 3200000 in
theorem rtexts_125 (a b : M) (vN1 vQ1 vN2 vQ2 : Value) (d1 d2 : ByteArray) (w : World) (hN1 : StrsAt w vN1 a.names) (hN2 : StrsAt w vN2 b.names) (hQ1 : QidsAt w vQ1 a.qids) (hQ2 : QidsAt w vQ2 b.qids) (hf1 : RFew a) (hf2 : RFew b) (ht : a.ty = 125) :
  Calls Tryz.prog 35 #[.agg (a.rcells vN1 vQ1 d1), .agg (b.rcells vN2 vQ2 d2)] w (RTextsPost w (decide (a.stat.name = b.stat.name) && decide (a.stat.uid = b.stat.uid) && decide (a.stat.gid = b.stat.gid) && decide (a.stat.muid = b.stat.muid))) := by
 obtain ⟨W, hW⟩ : ∃ W, W = (w.alloc (.cells (a.rcells vN1 vQ1 d1) 46)).alloc (.cells (b.rcells vN2 vQ2 d2) 46) := ⟨_, rfl⟩
 have hT := hid (show Two w W a b vN1 vQ1 vN2 vQ2 d1 d2 by rw [hW]; exact Two.start)
 have c0 : W.cell? ⟨w.heap.size, 0, none⟩ = some (.int .u8 125) := by rw [block_cell hT.out.one 0]; show some (Value.int .u8 (a.ty : Int)) = _; rw [ht]; rfl
 clear ht
 have c32 : W.cell? ⟨w.heap.size, 32, none⟩ = some (.string a.stat.name) := block_cell hT.out.one 32
 have k32 : W.cell? ⟨w.heap.size + 1, 32, none⟩ = some (.string b.stat.name) := block_cell hT.out.two 32
 obtain ⟨r0, h0⟩ : ∃ r, r = decide (a.stat.name = b.stat.name) := ⟨_, rfl⟩
 have q0 : (a.stat.name.toList == b.stat.name.toList) = r0 := by rw [h0]; exact str_beq _ _
 rw [← h0]
 replace h0 := hid h0
 have c33 : W.cell? ⟨w.heap.size, 33, none⟩ = some (.string a.stat.uid) := block_cell hT.out.one 33
 have k33 : W.cell? ⟨w.heap.size + 1, 33, none⟩ = some (.string b.stat.uid) := block_cell hT.out.two 33
 obtain ⟨r1, h1⟩ : ∃ r, r = decide (a.stat.uid = b.stat.uid) := ⟨_, rfl⟩
 have q1 : (a.stat.uid.toList == b.stat.uid.toList) = r1 := by rw [h1]; exact str_beq _ _
 rw [← h1]
 replace h1 := hid h1
 have c34 : W.cell? ⟨w.heap.size, 34, none⟩ = some (.string a.stat.gid) := block_cell hT.out.one 34
 have k34 : W.cell? ⟨w.heap.size + 1, 34, none⟩ = some (.string b.stat.gid) := block_cell hT.out.two 34
 obtain ⟨r2, h2⟩ : ∃ r, r = decide (a.stat.gid = b.stat.gid) := ⟨_, rfl⟩
 have q2 : (a.stat.gid.toList == b.stat.gid.toList) = r2 := by rw [h2]; exact str_beq _ _
 rw [← h2]
 replace h2 := hid h2
 have c35 : W.cell? ⟨w.heap.size, 35, none⟩ = some (.string a.stat.muid) := block_cell hT.out.one 35
 have k35 : W.cell? ⟨w.heap.size + 1, 35, none⟩ = some (.string b.stat.muid) := block_cell hT.out.two 35
 obtain ⟨r3, h3⟩ : ∃ r, r = decide (a.stat.muid = b.stat.muid) := ⟨_, rfl⟩
 have q3 : (a.stat.muid.toList == b.stat.muid.toList) = r3 := by rw [h3]; exact str_beq _ _
 rw [← h3]
 replace h3 := hid h3
 replace hN1 := hid hN1
 replace hN2 := hid hN2
 replace hQ1 := hid hQ1
 replace hQ2 := hid hQ2
 replace hf1 := hid hf1
 replace hf2 := hid hf2
 simp only [M.rcells, M.cells] at hW ⊢
 cases r0 <;> cases r1 <;> cases r2 <;> cases r3
 all_goals
  go_enter Tryz.func35, Tryz.ntmps35
  go_wp2_with (rw [← hW]; replace hW := hid hW)
  try (rw [← hW]; replace hW := hid hW)
  go_ret
  exact ⟨rfl, hT.out.bel⟩
set_option maxHeartbeats 3200000 in
theorem rtexts_126 (a b : M) (vN1 vQ1 vN2 vQ2 : Value) (d1 d2 : ByteArray) (w : World) (hN1 : StrsAt w vN1 a.names) (hN2 : StrsAt w vN2 b.names) (hQ1 : QidsAt w vQ1 a.qids) (hQ2 : QidsAt w vQ2 b.qids) (hf1 : RFew a) (hf2 : RFew b) (ht : a.ty = 126) :
  Calls Tryz.prog 35 #[.agg (a.rcells vN1 vQ1 d1), .agg (b.rcells vN2 vQ2 d2)] w (RTextsPost w (decide (a.stat.name = b.stat.name) && decide (a.stat.uid = b.stat.uid) && decide (a.stat.gid = b.stat.gid) && decide (a.stat.muid = b.stat.muid))) := by
 obtain ⟨W, hW⟩ : ∃ W, W = (w.alloc (.cells (a.rcells vN1 vQ1 d1) 46)).alloc (.cells (b.rcells vN2 vQ2 d2) 46) := ⟨_, rfl⟩
 have hT := hid (show Two w W a b vN1 vQ1 vN2 vQ2 d1 d2 by rw [hW]; exact Two.start)
 have c0 : W.cell? ⟨w.heap.size, 0, none⟩ = some (.int .u8 126) := by rw [block_cell hT.out.one 0]; show some (Value.int .u8 (a.ty : Int)) = _; rw [ht]; rfl
 clear ht
 have c32 : W.cell? ⟨w.heap.size, 32, none⟩ = some (.string a.stat.name) := block_cell hT.out.one 32
 have k32 : W.cell? ⟨w.heap.size + 1, 32, none⟩ = some (.string b.stat.name) := block_cell hT.out.two 32
 obtain ⟨r0, h0⟩ : ∃ r, r = decide (a.stat.name = b.stat.name) := ⟨_, rfl⟩
 have q0 : (a.stat.name.toList == b.stat.name.toList) = r0 := by rw [h0]; exact str_beq _ _
 rw [← h0]
 replace h0 := hid h0
 have c33 : W.cell? ⟨w.heap.size, 33, none⟩ = some (.string a.stat.uid) := block_cell hT.out.one 33
 have k33 : W.cell? ⟨w.heap.size + 1, 33, none⟩ = some (.string b.stat.uid) := block_cell hT.out.two 33
 obtain ⟨r1, h1⟩ : ∃ r, r = decide (a.stat.uid = b.stat.uid) := ⟨_, rfl⟩
 have q1 : (a.stat.uid.toList == b.stat.uid.toList) = r1 := by rw [h1]; exact str_beq _ _
 rw [← h1]
 replace h1 := hid h1
 have c34 : W.cell? ⟨w.heap.size, 34, none⟩ = some (.string a.stat.gid) := block_cell hT.out.one 34
 have k34 : W.cell? ⟨w.heap.size + 1, 34, none⟩ = some (.string b.stat.gid) := block_cell hT.out.two 34
 obtain ⟨r2, h2⟩ : ∃ r, r = decide (a.stat.gid = b.stat.gid) := ⟨_, rfl⟩
 have q2 : (a.stat.gid.toList == b.stat.gid.toList) = r2 := by rw [h2]; exact str_beq _ _
 rw [← h2]
 replace h2 := hid h2
 have c35 : W.cell? ⟨w.heap.size, 35, none⟩ = some (.string a.stat.muid) := block_cell hT.out.one 35
 have k35 : W.cell? ⟨w.heap.size + 1, 35, none⟩ = some (.string b.stat.muid) := block_cell hT.out.two 35
 obtain ⟨r3, h3⟩ : ∃ r, r = decide (a.stat.muid = b.stat.muid) := ⟨_, rfl⟩
 have q3 : (a.stat.muid.toList == b.stat.muid.toList) = r3 := by rw [h3]; exact str_beq _ _
 rw [← h3]
 replace h3 := hid h3
 replace hN1 := hid hN1
 replace hN2 := hid hN2
 replace hQ1 := hid hQ1
 replace hQ2 := hid hQ2
 replace hf1 := hid hf1
 replace hf2 := hid hf2
 simp only [M.rcells, M.cells] at hW ⊢
 cases r0 <;> cases r1 <;> cases r2 <;> cases r3
 all_goals
  go_enter Tryz.func35, Tryz.ntmps35
  go_wp2_with (rw [← hW]; replace hW := hid hW)
  try (rw [← hW]; replace hW := hid hW)
  go_ret
  exact ⟨rfl, hT.out.bel⟩
set_option maxHeartbeats 3200000 in
theorem rtexts_127 (a b : M) (vN1 vQ1 vN2 vQ2 : Value) (d1 d2 : ByteArray) (w : World) (hN1 : StrsAt w vN1 a.names) (hN2 : StrsAt w vN2 b.names) (hQ1 : QidsAt w vQ1 a.qids) (hQ2 : QidsAt w vQ2 b.qids) (hf1 : RFew a) (hf2 : RFew b) (ht : a.ty = 127) :
  Calls Tryz.prog 35 #[.agg (a.rcells vN1 vQ1 d1), .agg (b.rcells vN2 vQ2 d2)] w (RTextsPost w true) := by
 obtain ⟨W, hW⟩ : ∃ W, W = (w.alloc (.cells (a.rcells vN1 vQ1 d1) 46)).alloc (.cells (b.rcells vN2 vQ2 d2) 46) := ⟨_, rfl⟩
 have hT := hid (show Two w W a b vN1 vQ1 vN2 vQ2 d1 d2 by rw [hW]; exact Two.start)
 have c0 : W.cell? ⟨w.heap.size, 0, none⟩ = some (.int .u8 127) := by rw [block_cell hT.out.one 0]; show some (Value.int .u8 (a.ty : Int)) = _; rw [ht]; rfl
 clear ht
 replace hN1 := hid hN1
 replace hN2 := hid hN2
 replace hQ1 := hid hQ1
 replace hQ2 := hid hQ2
 replace hf1 := hid hf1
 replace hf2 := hid hf2
 simp only [M.rcells, M.cells] at hW ⊢
 all_goals
  go_enter Tryz.func35, Tryz.ntmps35
  go_wp2_with (rw [← hW]; replace hW := hid hW)
  try (rw [← hW]; replace hW := hid hW)
  go_ret
  exact ⟨rfl, hT.out.bel⟩
def textsB (a b : M) : Bool :=
 if a.ty = 100 ∨ a.ty = 101 then decide (a.version = b.version)
 else if a.ty = 102 ∨ a.ty = 104 then decide (a.uname = b.uname) && decide (a.aname = b.aname)
 else if a.ty = 107 then decide (a.ename = b.ename)
 else if a.ty = 110 then decide (a.names = b.names)
 else if a.ty = 111 then decide (a.qids.length = b.qids.length)
 else if a.ty = 114 then decide (a.name = b.name)
 else if a.ty = 125 ∨ a.ty = 126 then decide (a.stat.name = b.stat.name) && decide (a.stat.uid = b.stat.uid) && decide (a.stat.gid = b.stat.gid) && decide (a.stat.muid = b.stat.muid)
 else true
theorem rtexts_any (a b : M) (vN1 vQ1 vN2 vQ2 : Value) (d1 d2 : ByteArray) (w : World) (hN1 : StrsAt w vN1 a.names) (hN2 : StrsAt w vN2 b.names) (hQ1 : QidsAt w vQ1 a.qids) (hQ2 : QidsAt w vQ2 b.qids) (hf1 : RFew a) (hf2 : RFew b) (hk : 100 ≤ a.ty ∧ a.ty ≤ 127 ∧ a.ty ≠ 106) :
  Calls Tryz.prog 35 #[.agg (a.rcells vN1 vQ1 d1), .agg (b.rcells vN2 vQ2 d2)] w (RTextsPost w (textsB a b)) := by
 have hc : a.ty = 100 ∨ a.ty = 101 ∨ a.ty = 102 ∨ a.ty = 103 ∨ a.ty = 104 ∨ a.ty = 105 ∨ a.ty = 107 ∨ a.ty = 108 ∨ a.ty = 109 ∨ a.ty = 110 ∨ a.ty = 111 ∨ a.ty = 112 ∨ a.ty = 113 ∨ a.ty = 114 ∨ a.ty = 115 ∨ a.ty = 116 ∨ a.ty = 117 ∨ a.ty = 118 ∨ a.ty = 119 ∨ a.ty = 120 ∨ a.ty = 121 ∨ a.ty = 122 ∨ a.ty = 123 ∨ a.ty = 124 ∨ a.ty = 125 ∨ a.ty = 126 ∨ a.ty = 127 := by omega
 rcases hc with h | h | h | h | h | h | h | h | h | h | h | h | h | h | h | h | h | h | h | h | h | h | h | h | h | h | h
 ·have := rtexts_100 a b vN1 vQ1 vN2 vQ2 d1 d2 w hN1 hN2 hQ1 hQ2 hf1 hf2 h
  rw [textsB, h]
  exact this
 ·have := rtexts_101 a b vN1 vQ1 vN2 vQ2 d1 d2 w hN1 hN2 hQ1 hQ2 hf1 hf2 h
  rw [textsB, h]
  exact this
 ·have := rtexts_102 a b vN1 vQ1 vN2 vQ2 d1 d2 w hN1 hN2 hQ1 hQ2 hf1 hf2 h
  rw [textsB, h]
  exact this
 ·have := rtexts_103 a b vN1 vQ1 vN2 vQ2 d1 d2 w hN1 hN2 hQ1 hQ2 hf1 hf2 h
  rw [textsB, h]
  exact this
 ·have := rtexts_104 a b vN1 vQ1 vN2 vQ2 d1 d2 w hN1 hN2 hQ1 hQ2 hf1 hf2 h
  rw [textsB, h]
  exact this
 ·have := rtexts_105 a b vN1 vQ1 vN2 vQ2 d1 d2 w hN1 hN2 hQ1 hQ2 hf1 hf2 h
  rw [textsB, h]
  exact this
 ·have := rtexts_107 a b vN1 vQ1 vN2 vQ2 d1 d2 w hN1 hN2 hQ1 hQ2 hf1 hf2 h
  rw [textsB, h]
  exact this
 ·have := rtexts_108 a b vN1 vQ1 vN2 vQ2 d1 d2 w hN1 hN2 hQ1 hQ2 hf1 hf2 h
  rw [textsB, h]
  exact this
 ·have := rtexts_109 a b vN1 vQ1 vN2 vQ2 d1 d2 w hN1 hN2 hQ1 hQ2 hf1 hf2 h
  rw [textsB, h]
  exact this
 ·have := rtexts_110 a b vN1 vQ1 vN2 vQ2 d1 d2 w hN1 hN2 hQ1 hQ2 hf1 hf2 h
  rw [textsB, h]
  exact this
 ·have := rtexts_111 a b vN1 vQ1 vN2 vQ2 d1 d2 w hN1 hN2 hQ1 hQ2 hf1 hf2 h
  rw [textsB, h]
  exact this
 ·have := rtexts_112 a b vN1 vQ1 vN2 vQ2 d1 d2 w hN1 hN2 hQ1 hQ2 hf1 hf2 h
  rw [textsB, h]
  exact this
 ·have := rtexts_113 a b vN1 vQ1 vN2 vQ2 d1 d2 w hN1 hN2 hQ1 hQ2 hf1 hf2 h
  rw [textsB, h]
  exact this
 ·have := rtexts_114 a b vN1 vQ1 vN2 vQ2 d1 d2 w hN1 hN2 hQ1 hQ2 hf1 hf2 h
  rw [textsB, h]
  exact this
 ·have := rtexts_115 a b vN1 vQ1 vN2 vQ2 d1 d2 w hN1 hN2 hQ1 hQ2 hf1 hf2 h
  rw [textsB, h]
  exact this
 ·have := rtexts_116 a b vN1 vQ1 vN2 vQ2 d1 d2 w hN1 hN2 hQ1 hQ2 hf1 hf2 h
  rw [textsB, h]
  exact this
 ·have := rtexts_117 a b vN1 vQ1 vN2 vQ2 d1 d2 w hN1 hN2 hQ1 hQ2 hf1 hf2 h
  rw [textsB, h]
  exact this
 ·have := rtexts_118 a b vN1 vQ1 vN2 vQ2 d1 d2 w hN1 hN2 hQ1 hQ2 hf1 hf2 h
  rw [textsB, h]
  exact this
 ·have := rtexts_119 a b vN1 vQ1 vN2 vQ2 d1 d2 w hN1 hN2 hQ1 hQ2 hf1 hf2 h
  rw [textsB, h]
  exact this
 ·have := rtexts_120 a b vN1 vQ1 vN2 vQ2 d1 d2 w hN1 hN2 hQ1 hQ2 hf1 hf2 h
  rw [textsB, h]
  exact this
 ·have := rtexts_121 a b vN1 vQ1 vN2 vQ2 d1 d2 w hN1 hN2 hQ1 hQ2 hf1 hf2 h
  rw [textsB, h]
  exact this
 ·have := rtexts_122 a b vN1 vQ1 vN2 vQ2 d1 d2 w hN1 hN2 hQ1 hQ2 hf1 hf2 h
  rw [textsB, h]
  exact this
 ·have := rtexts_123 a b vN1 vQ1 vN2 vQ2 d1 d2 w hN1 hN2 hQ1 hQ2 hf1 hf2 h
  rw [textsB, h]
  exact this
 ·have := rtexts_124 a b vN1 vQ1 vN2 vQ2 d1 d2 w hN1 hN2 hQ1 hQ2 hf1 hf2 h
  rw [textsB, h]
  exact this
 ·have := rtexts_125 a b vN1 vQ1 vN2 vQ2 d1 d2 w hN1 hN2 hQ1 hQ2 hf1 hf2 h
  rw [textsB, h]
  exact this
 ·have := rtexts_126 a b vN1 vQ1 vN2 vQ2 d1 d2 w hN1 hN2 hQ1 hQ2 hf1 hf2 h
  rw [textsB, h]
  exact this
 ·have := rtexts_127 a b vN1 vQ1 vN2 vQ2 d1 d2 w hN1 hN2 hQ1 hQ2 hf1 hf2 h
  rw [textsB, h]
  exact this
def M.rbytes (m : M) : List UInt8 := (slots m.ty).flatMap (Slot.r m)
def M.rerr (m : M) (e : Nat) : Nat := ((slots m.ty).map (Slot.re m)).foldl firstE e
end
end Go.Proofs.YtlmojhlacfjmaaaGreat

namespace Go.Proofs.YtlmojhlacfjmaaaGreat
section
open Go.RowKit
set_option maxRecDepth 100000
set_option linter.unusedVariables false

def Stat.bare (s : Stat) : Stat := { s with name := ⟨#[]⟩, uid := ⟨#[]⟩, gid := ⟨#[]⟩, muid := ⟨#[]⟩ }
def M.bare (m : M) : M := { m with version := ⟨#[]⟩, uname := ⟨#[]⟩, aname := ⟨#[]⟩, ename := ⟨#[]⟩, name := ⟨#[]⟩, stat := m.stat.bare, names := List.replicate m.names.length ⟨#[]⟩ }
theorem MOk.bare {m : M} (h : MOk m) : MOk m.bare :=
 ⟨h.ty, h.tag, h.msize, h.fid, h.afid, h.new, h.old, h.qids, h.qid, h.iounit, h.mode, h.perm, h.offset, h.count, ⟨h.stat.kind, h.stat.dev, h.stat.qt, h.stat.qv, h.stat.qp, h.stat.mode, h.stat.atm, h.stat.mtm, h.stat.len, Nat.zero_le _, Nat.zero_le _, Nat.zero_le _, Nat.zero_le _⟩⟩
theorem RFew.bare {m : M} (h : RFew m) : RFew m.bare :=
 ⟨⟨Nat.zero_le _, Nat.zero_le _, Nat.zero_le _, Nat.zero_le _, fun s hs => by rw [(List.mem_replicate.1 hs).2]; exact Nat.zero_le _, Nat.zero_le _, ⟨Nat.zero_le _, Nat.zero_le _, Nat.zero_le _, Nat.zero_le _⟩⟩, by simp [M.bare]; exact h.names, h.qids, h.data⟩

theorem num_inj {a b n : Nat} {x y : List UInt8} (ha : a < 256 ^ n) (hb : b < 256 ^ n) : numBytes a n ++ x = numBytes b n ++ y ↔ a = b ∧ x = y := by
 constructor
 ·intro h
  obtain ⟨h1, h2⟩ := List.append_inj h (by rw [numBytes_length, numBytes_length])
  have h3 := congrArg leN h1
  rw [leN_num, leN_num, Nat.mod_eq_of_lt ha, Nat.mod_eq_of_lt hb] at h3
  exact ⟨h3, h2⟩
 ·rintro ⟨rfl, rfl⟩; rfl
theorem app_inj {k x y : List UInt8} : k ++ x = k ++ y ↔ x = y := List.append_cancel_left_eq k x y ▸ Iff.rfl
theorem QidV.ext {a b : QidV} : a = b ↔ a.t = b.t ∧ a.v = b.v ∧ a.p = b.p := by
 constructor
 ·rintro rfl; exact ⟨rfl, rfl, rfl⟩
 ·cases a; cases b; rintro ⟨h1, h2, h3⟩; simp_all
theorem qid_inj {a b : QidV} {x y : List UInt8} (ha : QidOk a) (hb : QidOk b) : a.bytes ++ x = b.bytes ++ y ↔ a = b ∧ x = y := by
 unfold QidV.bytes qidBytes
 rw [List.append_assoc, List.append_assoc, List.append_assoc, List.append_assoc]
 rw [num_inj ha.t hb.t, num_inj ha.v hb.v, num_inj ha.p hb.p, QidV.ext]
 simp only [and_assoc]
theorem qids_inj : ∀ {a b : List QidV} {x y : List UInt8} (ha : ∀ q ∈ a, QidOk q) (hb : ∀ q ∈ b, QidOk q) (hl : a.length = b.length), qidsBytes a ++ x = qidsBytes b ++ y ↔ a = b ∧ x = y
 | [], [], x, y, _, _, _ => by simp [qidsBytes]
 | p :: a, q :: b, x, y, ha, hb, hl => by
  show (p.bytes ++ qidsBytes a) ++ x = (q.bytes ++ qidsBytes b) ++ y ↔ _
  rw [List.append_assoc, List.append_assoc, qid_inj (ha p (by simp)) (hb q (by simp)), qids_inj (fun r h => ha r (by simp [h])) (fun r h => hb r (by simp [h])) (by simpa using hl), List.cons.injEq, and_assoc]
theorem data_inj {a b x y : List UInt8} (hl : a.length = b.length) : a ++ x = b ++ y ↔ a = b ∧ x = y :=
 ⟨fun h => List.append_inj h hl, by rintro ⟨rfl, rfl⟩; rfl⟩

theorem mayN_empty : mayN ⟨#[]⟩ = 0 := by rfl
theorem bare_err (s : Stat) : s.bare.err = 0 := by
 unfold Stat.err Stat.texts
 simp only [Stat.bare, textsErr, mayN_empty, if_true]
theorem bare_bytes (s : Stat) : s.bare.bytes = numBytes 47 2 ++ (s.head ++ textsBytes [⟨#[]⟩, ⟨#[]⟩, ⟨#[]⟩, ⟨#[]⟩]) := by
 unfold Stat.bytes
 rw [if_pos (bare_err s), List.append_assoc]
 rfl
theorem bare_len (s : Stat) : s.bare.bytes.length = 49 := by
 rw [bytes_len, if_pos (bare_err s)]; rfl
theorem head_inj {a b : Stat} {x y : List UInt8} (ha : StatOk a) (hb : StatOk b) : a.head ++ x = b.head ++ y ↔ a.bare = b.bare ∧ x = y := by
 unfold Stat.head qidBytes
 simp only [List.append_assoc]
 rw [num_inj ha.kind hb.kind, num_inj ha.dev hb.dev, num_inj ha.qt hb.qt, num_inj ha.qv hb.qv, num_inj ha.qp hb.qp, num_inj ha.mode hb.mode, num_inj ha.atm hb.atm, num_inj ha.mtm hb.mtm, num_inj ha.len hb.len]
 simp only [Stat.bare, Stat.mk.injEq, and_true, and_assoc]
theorem bare_stat {a b : Stat} {x y : List UInt8} (ha : StatOk a) (hb : StatOk b) : (numBytes a.bare.bytes.length 2 ++ a.bare.bytes) ++ x = (numBytes b.bare.bytes.length 2 ++ b.bare.bytes) ++ y ↔ a.bare = b.bare ∧ x = y := by
 rw [bare_len, bare_len, bare_bytes, bare_bytes]
 simp only [List.append_assoc]
 rw [app_inj, app_inj, head_inj ha hb, app_inj]

def Slot.nb (a b : M) : Slot → Prop
 | .msize => a.msize = b.msize
 | .version => True
 | .fid => a.fid = b.fid
 | .afid => a.afid = b.afid
 | .new => a.new = b.new
 | .uname => True
 | .aname => True
 | .ename => True
 | .old => a.old = b.old
 | .names => a.names.length = b.names.length
 | .qids => a.qids = b.qids
 | .qid => a.qid = b.qid
 | .iounit => a.iounit = b.iounit
 | .mode => a.mode = b.mode
 | .perm => a.perm = b.perm
 | .name => True
 | .offset => a.offset = b.offset
 | .count => a.count = b.count
 | .data => a.data = b.data
 | .stat => a.stat.bare = b.stat.bare
theorem Slot.r_inj {a b : M} (ha : MOk a) (hb : MOk b) (fa : RFew a) (fb : RFew b) (s : Slot) (x y : List UInt8) : Slot.r a.bare s ++ x = Slot.r b.bare s ++ y ↔ s.nb a b ∧ x = y := by
 cases s
 case msize => exact num_inj ha.msize hb.msize
 case version => exact app_inj.trans (by simp [Slot.nb])
 case fid => exact num_inj ha.fid hb.fid
 case afid => exact num_inj ha.afid hb.afid
 case new => exact num_inj ha.new hb.new
 case uname => exact app_inj.trans (by simp [Slot.nb])
 case aname => exact app_inj.trans (by simp [Slot.nb])
 case ename => exact app_inj.trans (by simp [Slot.nb])
 case old => exact num_inj ha.old hb.old
 case names =>
  show (numBytes (List.replicate a.names.length (⟨#[]⟩ : ByteArray)).length 2 ++ (List.replicate a.names.length (⟨#[]⟩ : ByteArray)).flatMap putTextR) ++ x = (numBytes (List.replicate b.names.length (⟨#[]⟩ : ByteArray)).length 2 ++ (List.replicate b.names.length (⟨#[]⟩ : ByteArray)).flatMap putTextR) ++ y ↔ a.names.length = b.names.length ∧ x = y
  rw [List.append_assoc, List.append_assoc, List.length_replicate, List.length_replicate, num_inj (by have := fa.names; omega) (by have := fb.names; omega)]
  refine and_congr_right fun h => ?_
  rw [h, app_inj]
 case qids =>
  show (numBytes a.qids.length 2 ++ qidsBytes a.qids) ++ x = (numBytes b.qids.length 2 ++ qidsBytes b.qids) ++ y ↔ a.qids = b.qids ∧ x = y
  rw [List.append_assoc, List.append_assoc, num_inj (by have := fa.qids; omega) (by have := fb.qids; omega)]
  constructor
  ·rintro ⟨h1, h2⟩; exact (qids_inj ha.qids hb.qids h1).1 h2
  ·rintro ⟨h1, h2⟩; rw [h1, h2]; exact ⟨rfl, rfl⟩
 case qid => exact qid_inj ha.qid hb.qid
 case iounit => exact num_inj ha.iounit hb.iounit
 case mode => exact num_inj ha.mode hb.mode
 case perm => exact num_inj ha.perm hb.perm
 case name => exact app_inj.trans (by simp [Slot.nb])
 case offset => exact num_inj ha.offset hb.offset
 case count => exact num_inj ha.count hb.count
 case data =>
  show (numBytes a.data.length 4 ++ a.data) ++ x = (numBytes b.data.length 4 ++ b.data) ++ y ↔ a.data = b.data ∧ x = y
  rw [List.append_assoc, List.append_assoc, num_inj (by have := fa.data; omega) (by have := fb.data; omega)]
  constructor
  ·rintro ⟨h1, h2⟩; exact (data_inj h1).1 h2
  ·rintro ⟨h1, h2⟩; rw [h1, h2]; exact ⟨rfl, rfl⟩
 case stat => exact bare_stat ha.stat hb.stat
theorem rbytes_inj {a b : M} (ha : MOk a) (hb : MOk b) (fa : RFew a) (fb : RFew b) : ∀ ss : List Slot, ss.flatMap (Slot.r a.bare) = ss.flatMap (Slot.r b.bare) ↔ ∀ s ∈ ss, s.nb a b
 | [] => by simp
 | s :: ss => by
  rw [List.flatMap_cons, List.flatMap_cons, Slot.r_inj ha hb fa fb, rbytes_inj ha hb fa fb ss]
  simp
theorem bare_and_texts {a b : Stat} : (a.bare = b.bare ∧ a.name = b.name ∧ a.uid = b.uid ∧ a.gid = b.gid ∧ a.muid = b.muid) ↔ a = b := by
 constructor
 ·rintro ⟨h, h1, h2, h3, h4⟩
  cases a; cases b
  simp_all [Stat.bare]
 ·rintro rfl; exact ⟨rfl, rfl, rfl, rfl, rfl⟩
def Slot.eqS (a b : M) : Slot → Prop
 | .msize => a.msize = b.msize
 | .version => a.version = b.version
 | .fid => a.fid = b.fid
 | .afid => a.afid = b.afid
 | .new => a.new = b.new
 | .uname => a.uname = b.uname
 | .aname => a.aname = b.aname
 | .ename => a.ename = b.ename
 | .old => a.old = b.old
 | .names => a.names = b.names
 | .qids => a.qids = b.qids
 | .qid => a.qid = b.qid
 | .iounit => a.iounit = b.iounit
 | .mode => a.mode = b.mode
 | .perm => a.perm = b.perm
 | .name => a.name = b.name
 | .offset => a.offset = b.offset
 | .count => a.count = b.count
 | .data => a.data = b.data
 | .stat => a.stat = b.stat
theorem cp_same (s : Slot) (a x : M) : s.eqS (s.cp a x) a := by cases s <;> rfl
theorem cp_other (s s' : Slot) (a x : M) (h : s ≠ s') : s.eqS (s'.cp a x) x := by
 cases s <;> cases s' <;> first | rfl | exact absurd rfl h
theorem eqS_trans (s : Slot) {a b c : M} (h : s.eqS a b) (k : s.eqS b c) : s.eqS a c := by cases s <;> exact Eq.trans h k
theorem eqS_symm (s : Slot) {a b : M} (h : s.eqS a b) : s.eqS b a := by cases s <;> exact Eq.symm h
theorem cps_keep (s : Slot) (a : M) : ∀ (ss : List Slot) (x : M), s ∉ ss → s.eqS (cps a ss x) x
 | [], x, _ => by cases s <;> rfl
 | s' :: ss, x, h => eqS_trans s (cps_keep s a ss _ fun h2 => h (List.mem_cons_of_mem _ h2)) (cp_other s s' a x fun e => h (by rw [e]; exact List.mem_cons_self))
theorem cps_get (s : Slot) (a : M) : ∀ (ss : List Slot) (x : M), s ∈ ss → s.eqS (cps a ss x) a
 | [], _, h => by cases h
 | s' :: ss, x, h => by
  by_cases hm : s ∈ ss
  ·exact cps_get s a ss _ hm
  ·have e : s = s' := by
    rcases List.mem_cons.1 h with h | h
    ·exact h
    ·exact absurd h hm
   subst e
   exact eqS_trans s (cps_keep s a ss _ hm) (cp_same s a x)
theorem cp_eq (s : Slot) {a b : M} (h : s.eqS a b) (x : M) : s.cp a x = s.cp b x := by
 cases s <;> simp only [Slot.eqS] at h <;> simp only [Slot.cp, h]
theorem cps_eq {a b : M} : ∀ (ss : List Slot) (x : M), (∀ s ∈ ss, s.eqS a b) → cps a ss x = cps b ss x
 | [], _, _ => rfl
 | s :: ss, x, h => by
  show cps a ss (s.cp a x) = cps b ss (s.cp b x)
  rw [cp_eq s (h s List.mem_cons_self), cps_eq ss _ fun t ht => h t (List.mem_cons_of_mem _ ht)]
theorem cps_iff {a b : M} (ss : List Slot) (x : M) : cps a ss x = cps b ss x ↔ ∀ s ∈ ss, s.eqS a b := by
 constructor
 ·intro h s hs
  have h1 := cps_get s a ss x hs
  rw [h] at h1
  exact eqS_trans s (eqS_symm s h1) (cps_get s b ss x hs)
 ·exact cps_eq ss x
theorem stat_iff {a b : Stat} : a = b ↔ (a.bare = b.bare ∧ a.name = b.name ∧ a.uid = b.uid ∧ a.gid = b.gid ∧ a.muid = b.muid) := bare_and_texts.symm
def rsameB (a b : M) : Bool := decide (a.ty = b.ty ∧ a.tag = b.tag) && (decide (a.bare.rbytes = b.bare.rbytes) && textsB a b)
def textsT (t : Nat) (a b : M) : Prop :=
 if t = 100 ∨ t = 101 then a.version = b.version
 else if t = 102 ∨ t = 104 then a.uname = b.uname ∧ a.aname = b.aname
 else if t = 107 then a.ename = b.ename
 else if t = 110 then a.names = b.names
 else if t = 111 then a.qids.length = b.qids.length
 else if t = 114 then a.name = b.name
 else if t = 125 ∨ t = 126 then a.stat.name = b.stat.name ∧ a.stat.uid = b.stat.uid ∧ a.stat.gid = b.stat.gid ∧ a.stat.muid = b.stat.muid
 else True
theorem textsT_iff (a b : M) : textsB a b = true ↔ textsT a.ty a b := by
 unfold textsB textsT
 repeat' split
 all_goals simp [and_assoc]
theorem nbT_100 (a b : M) : ((∀ s ∈ ([.msize, .version] : List Slot), s.nb a b) ∧ textsT 100 a b) ↔ ∀ s ∈ ([.msize, .version] : List Slot), s.eqS a b := by
 simp [Slot.nb, Slot.eqS, textsT]
 try (constructor <;> intro h <;> simp_all)
theorem nbT_101 (a b : M) : ((∀ s ∈ ([.msize, .version] : List Slot), s.nb a b) ∧ textsT 101 a b) ↔ ∀ s ∈ ([.msize, .version] : List Slot), s.eqS a b := by
 simp [Slot.nb, Slot.eqS, textsT]
 try (constructor <;> intro h <;> simp_all)
theorem nbT_102 (a b : M) : ((∀ s ∈ ([.afid, .uname, .aname] : List Slot), s.nb a b) ∧ textsT 102 a b) ↔ ∀ s ∈ ([.afid, .uname, .aname] : List Slot), s.eqS a b := by
 simp [Slot.nb, Slot.eqS, textsT]
 try (constructor <;> intro h <;> simp_all)
theorem nbT_103 (a b : M) : ((∀ s ∈ ([.qid] : List Slot), s.nb a b) ∧ textsT 103 a b) ↔ ∀ s ∈ ([.qid] : List Slot), s.eqS a b := by
 simp [Slot.nb, Slot.eqS, textsT]
 try (constructor <;> intro h <;> simp_all)
theorem nbT_104 (a b : M) : ((∀ s ∈ ([.fid, .afid, .uname, .aname] : List Slot), s.nb a b) ∧ textsT 104 a b) ↔ ∀ s ∈ ([.fid, .afid, .uname, .aname] : List Slot), s.eqS a b := by
 simp [Slot.nb, Slot.eqS, textsT]
 try (constructor <;> intro h <;> simp_all)
theorem nbT_105 (a b : M) : ((∀ s ∈ ([.qid] : List Slot), s.nb a b) ∧ textsT 105 a b) ↔ ∀ s ∈ ([.qid] : List Slot), s.eqS a b := by
 simp [Slot.nb, Slot.eqS, textsT]
 try (constructor <;> intro h <;> simp_all)
theorem nbT_107 (a b : M) : ((∀ s ∈ ([.ename] : List Slot), s.nb a b) ∧ textsT 107 a b) ↔ ∀ s ∈ ([.ename] : List Slot), s.eqS a b := by
 simp [Slot.nb, Slot.eqS, textsT]
 try (constructor <;> intro h <;> simp_all)
theorem nbT_108 (a b : M) : ((∀ s ∈ ([.old] : List Slot), s.nb a b) ∧ textsT 108 a b) ↔ ∀ s ∈ ([.old] : List Slot), s.eqS a b := by
 simp [Slot.nb, Slot.eqS, textsT]
 try (constructor <;> intro h <;> simp_all)
theorem nbT_109 (a b : M) : ((∀ s ∈ ([] : List Slot), s.nb a b) ∧ textsT 109 a b) ↔ ∀ s ∈ ([] : List Slot), s.eqS a b := by
 simp [textsT]
theorem nbT_110 (a b : M) : ((∀ s ∈ ([.fid, .new, .names] : List Slot), s.nb a b) ∧ textsT 110 a b) ↔ ∀ s ∈ ([.fid, .new, .names] : List Slot), s.eqS a b := by
 simp [Slot.nb, Slot.eqS, textsT]
 try (constructor <;> intro h <;> simp_all)
theorem nbT_111 (a b : M) : ((∀ s ∈ ([.qids] : List Slot), s.nb a b) ∧ textsT 111 a b) ↔ ∀ s ∈ ([.qids] : List Slot), s.eqS a b := by
 simp [Slot.nb, Slot.eqS, textsT]
 intro h; rw [h]
theorem nbT_112 (a b : M) : ((∀ s ∈ ([.fid, .mode] : List Slot), s.nb a b) ∧ textsT 112 a b) ↔ ∀ s ∈ ([.fid, .mode] : List Slot), s.eqS a b := by
 simp [Slot.nb, Slot.eqS, textsT]
 try (constructor <;> intro h <;> simp_all)
theorem nbT_113 (a b : M) : ((∀ s ∈ ([.qid, .iounit] : List Slot), s.nb a b) ∧ textsT 113 a b) ↔ ∀ s ∈ ([.qid, .iounit] : List Slot), s.eqS a b := by
 simp [Slot.nb, Slot.eqS, textsT]
 try (constructor <;> intro h <;> simp_all)
theorem nbT_114 (a b : M) : ((∀ s ∈ ([.fid, .name, .perm, .mode] : List Slot), s.nb a b) ∧ textsT 114 a b) ↔ ∀ s ∈ ([.fid, .name, .perm, .mode] : List Slot), s.eqS a b := by
 simp [Slot.nb, Slot.eqS, textsT]
 try (constructor <;> intro h <;> simp_all)
theorem nbT_115 (a b : M) : ((∀ s ∈ ([.qid, .iounit] : List Slot), s.nb a b) ∧ textsT 115 a b) ↔ ∀ s ∈ ([.qid, .iounit] : List Slot), s.eqS a b := by
 simp [Slot.nb, Slot.eqS, textsT]
 try (constructor <;> intro h <;> simp_all)
theorem nbT_116 (a b : M) : ((∀ s ∈ ([.fid, .offset, .count] : List Slot), s.nb a b) ∧ textsT 116 a b) ↔ ∀ s ∈ ([.fid, .offset, .count] : List Slot), s.eqS a b := by
 simp [Slot.nb, Slot.eqS, textsT]
 try (constructor <;> intro h <;> simp_all)
theorem nbT_117 (a b : M) : ((∀ s ∈ ([.data] : List Slot), s.nb a b) ∧ textsT 117 a b) ↔ ∀ s ∈ ([.data] : List Slot), s.eqS a b := by
 simp [Slot.nb, Slot.eqS, textsT]
 try (constructor <;> intro h <;> simp_all)
theorem nbT_118 (a b : M) : ((∀ s ∈ ([.fid, .offset, .data] : List Slot), s.nb a b) ∧ textsT 118 a b) ↔ ∀ s ∈ ([.fid, .offset, .data] : List Slot), s.eqS a b := by
 simp [Slot.nb, Slot.eqS, textsT]
 try (constructor <;> intro h <;> simp_all)
theorem nbT_119 (a b : M) : ((∀ s ∈ ([.count] : List Slot), s.nb a b) ∧ textsT 119 a b) ↔ ∀ s ∈ ([.count] : List Slot), s.eqS a b := by
 simp [Slot.nb, Slot.eqS, textsT]
 try (constructor <;> intro h <;> simp_all)
theorem nbT_120 (a b : M) : ((∀ s ∈ ([.fid] : List Slot), s.nb a b) ∧ textsT 120 a b) ↔ ∀ s ∈ ([.fid] : List Slot), s.eqS a b := by
 simp [Slot.nb, Slot.eqS, textsT]
 try (constructor <;> intro h <;> simp_all)
theorem nbT_121 (a b : M) : ((∀ s ∈ ([] : List Slot), s.nb a b) ∧ textsT 121 a b) ↔ ∀ s ∈ ([] : List Slot), s.eqS a b := by
 simp [textsT]
theorem nbT_122 (a b : M) : ((∀ s ∈ ([.fid] : List Slot), s.nb a b) ∧ textsT 122 a b) ↔ ∀ s ∈ ([.fid] : List Slot), s.eqS a b := by
 simp [Slot.nb, Slot.eqS, textsT]
 try (constructor <;> intro h <;> simp_all)
theorem nbT_123 (a b : M) : ((∀ s ∈ ([] : List Slot), s.nb a b) ∧ textsT 123 a b) ↔ ∀ s ∈ ([] : List Slot), s.eqS a b := by
 simp [textsT]
theorem nbT_124 (a b : M) : ((∀ s ∈ ([.fid] : List Slot), s.nb a b) ∧ textsT 124 a b) ↔ ∀ s ∈ ([.fid] : List Slot), s.eqS a b := by
 simp [Slot.nb, Slot.eqS, textsT]
 try (constructor <;> intro h <;> simp_all)
theorem nbT_125 (a b : M) : ((∀ s ∈ ([.stat] : List Slot), s.nb a b) ∧ textsT 125 a b) ↔ ∀ s ∈ ([.stat] : List Slot), s.eqS a b := by
 simp only [List.forall_mem_cons, List.not_mem_nil, false_imp_iff, implies_true, and_true, Slot.nb, Slot.eqS, textsT]
 rw [stat_iff (a := a.stat)]
 simp
theorem nbT_126 (a b : M) : ((∀ s ∈ ([.fid, .stat] : List Slot), s.nb a b) ∧ textsT 126 a b) ↔ ∀ s ∈ ([.fid, .stat] : List Slot), s.eqS a b := by
 simp only [List.forall_mem_cons, List.not_mem_nil, false_imp_iff, implies_true, and_true, Slot.nb, Slot.eqS, textsT]
 rw [stat_iff (a := a.stat)]
 simp [and_assoc]
theorem nbT_127 (a b : M) : ((∀ s ∈ ([] : List Slot), s.nb a b) ∧ textsT 127 a b) ↔ ∀ s ∈ ([] : List Slot), s.eqS a b := by
 simp [textsT]
theorem rsame_iff {a b : M} (ha : MOk a) (hb : MOk b) (fa : RFew a) (fb : RFew b) (hk : 100 ≤ a.ty ∧ a.ty ≤ 127 ∧ a.ty ≠ 106) : rsameB a b = true ↔ a.named = b.named := by
 unfold rsameB
 by_cases h : a.ty = b.ty ∧ a.tag = b.tag
 ·obtain ⟨ht, hg⟩ := h
  have hr : (a.bare.rbytes = b.bare.rbytes) ↔ ∀ s ∈ slots a.ty, s.nb a b := by
   unfold M.rbytes
   show ((slots a.ty).flatMap (Slot.r a.bare) = (slots b.ty).flatMap (Slot.r b.bare)) ↔ _
   rw [← ht]
   exact rbytes_inj ha hb fa fb _
  rw [Bool.and_eq_true, Bool.and_eq_true, decide_eq_true_eq, decide_eq_true_eq, hr, textsT_iff]
  have hn : a.named = b.named ↔ cps a (slots a.ty) a.head = cps b (slots a.ty) a.head := by
   unfold M.named M.head
   rw [← ht, ← hg]
  rw [hn, cps_iff]
  clear hn hr
  simp only [ht, hg, and_self, true_and]
  rw [← ht]
  have hc : a.ty = 100 ∨ a.ty = 101 ∨ a.ty = 102 ∨ a.ty = 103 ∨ a.ty = 104 ∨ a.ty = 105 ∨ a.ty = 107 ∨ a.ty = 108 ∨ a.ty = 109 ∨ a.ty = 110 ∨ a.ty = 111 ∨ a.ty = 112 ∨ a.ty = 113 ∨ a.ty = 114 ∨ a.ty = 115 ∨ a.ty = 116 ∨ a.ty = 117 ∨ a.ty = 118 ∨ a.ty = 119 ∨ a.ty = 120 ∨ a.ty = 121 ∨ a.ty = 122 ∨ a.ty = 123 ∨ a.ty = 124 ∨ a.ty = 125 ∨ a.ty = 126 ∨ a.ty = 127 := by omega
  rcases hc with h | h | h | h | h | h | h | h | h | h | h | h | h | h | h | h | h | h | h | h | h | h | h | h | h | h | h <;> rw [h]
  ·exact nbT_100 a b
  ·exact nbT_101 a b
  ·exact nbT_102 a b
  ·exact nbT_103 a b
  ·exact nbT_104 a b
  ·exact nbT_105 a b
  ·exact nbT_107 a b
  ·exact nbT_108 a b
  ·exact nbT_109 a b
  ·exact nbT_110 a b
  ·exact nbT_111 a b
  ·exact nbT_112 a b
  ·exact nbT_113 a b
  ·exact nbT_114 a b
  ·exact nbT_115 a b
  ·exact nbT_116 a b
  ·exact nbT_117 a b
  ·exact nbT_118 a b
  ·exact nbT_119 a b
  ·exact nbT_120 a b
  ·exact nbT_121 a b
  ·exact nbT_122 a b
  ·exact nbT_123 a b
  ·exact nbT_124 a b
  ·exact nbT_125 a b
  ·exact nbT_126 a b
  ·exact nbT_127 a b
 ·have hn : ¬ a.named = b.named := fun he => h (by
   have h1 := named_ty a
   have h2 := named_ty b
   rw [he] at h1
   exact ⟨h1.1.symm.trans h2.1, h1.2.symm.trans h2.2⟩)
  simp [h, hn]
end
end Go.Proofs.YtlmojhlacfjmaaaGreat

namespace Go.Proofs.YtlmojhlacfjmaaaGreat
section
open Go.RowKit
set_option maxRecDepth 100000
set_option linter.unusedVariables false

theorem rbody_any (b : Nat) (xs : List UInt8) (e : Nat) (m : M) (vN vQ : Value) (d : ByteArray) (w : World) (hm : MOk m) (hf : RFew m) (hx : xs.length ≤ 1000) (h : RA0 w b m vN vQ d xs e) (hk : 100 ≤ m.ty ∧ m.ty ≤ 127 ∧ m.ty ≠ 106) :
  Calls Tryz.prog 26 #[.pointer (some ⟨b, 0, none⟩), .agg (m.rcells vN vQ d)] w (RGood b (xs ++ m.rbytes) (m.rerr e) w) := by
 unfold M.rbytes M.rerr
 have hc : m.ty = 100 ∨ m.ty = 101 ∨ m.ty = 102 ∨ m.ty = 103 ∨ m.ty = 104 ∨ m.ty = 105 ∨ m.ty = 107 ∨ m.ty = 108 ∨ m.ty = 109 ∨ m.ty = 110 ∨ m.ty = 111 ∨ m.ty = 112 ∨ m.ty = 113 ∨ m.ty = 114 ∨ m.ty = 115 ∨ m.ty = 116 ∨ m.ty = 117 ∨ m.ty = 118 ∨ m.ty = 119 ∨ m.ty = 120 ∨ m.ty = 121 ∨ m.ty = 122 ∨ m.ty = 123 ∨ m.ty = 124 ∨ m.ty = 125 ∨ m.ty = 126 ∨ m.ty = 127 := by omega
 rcases hc with ht | ht | ht | ht | ht | ht | ht | ht | ht | ht | ht | ht | ht | ht | ht | ht | ht | ht | ht | ht | ht | ht | ht | ht | ht | ht | ht
 ·have := rbody_100 b xs e m vN vQ d w hm hf hx h ht
  rw [ht]
  exact this
 ·have := rbody_101 b xs e m vN vQ d w hm hf hx h ht
  rw [ht]
  exact this
 ·have := rbody_102 b xs e m vN vQ d w hm hf hx h ht
  rw [ht]
  exact this
 ·have := rbody_103 b xs e m vN vQ d w hm hf hx h ht
  rw [ht]
  exact this
 ·have := rbody_104 b xs e m vN vQ d w hm hf hx h ht
  rw [ht]
  exact this
 ·have := rbody_105 b xs e m vN vQ d w hm hf hx h ht
  rw [ht]
  exact this
 ·have := rbody_107 b xs e m vN vQ d w hm hf hx h ht
  rw [ht]
  exact this
 ·have := rbody_108 b xs e m vN vQ d w hm hf hx h ht
  rw [ht]
  exact this
 ·have := rbody_109 b xs e m vN vQ d w hm hf hx h ht
  rw [ht]
  exact this
 ·have := rbody_110 b xs e m vN vQ d w hm hf hx h ht
  rw [ht]
  exact this
 ·have := rbody_111 b xs e m vN vQ d w hm hf hx h ht
  rw [ht]
  exact this
 ·have := rbody_112 b xs e m vN vQ d w hm hf hx h ht
  rw [ht]
  exact this
 ·have := rbody_113 b xs e m vN vQ d w hm hf hx h ht
  rw [ht]
  exact this
 ·have := rbody_114 b xs e m vN vQ d w hm hf hx h ht
  rw [ht]
  exact this
 ·have := rbody_115 b xs e m vN vQ d w hm hf hx h ht
  rw [ht]
  exact this
 ·have := rbody_116 b xs e m vN vQ d w hm hf hx h ht
  rw [ht]
  exact this
 ·have := rbody_117 b xs e m vN vQ d w hm hf hx h ht
  rw [ht]
  exact this
 ·have := rbody_118 b xs e m vN vQ d w hm hf hx h ht
  rw [ht]
  exact this
 ·have := rbody_119 b xs e m vN vQ d w hm hf hx h ht
  rw [ht]
  exact this
 ·have := rbody_120 b xs e m vN vQ d w hm hf hx h ht
  rw [ht]
  exact this
 ·have := rbody_121 b xs e m vN vQ d w hm hf hx h ht
  rw [ht]
  exact this
 ·have := rbody_122 b xs e m vN vQ d w hm hf hx h ht
  rw [ht]
  exact this
 ·have := rbody_123 b xs e m vN vQ d w hm hf hx h ht
  rw [ht]
  exact this
 ·have := rbody_124 b xs e m vN vQ d w hm hf hx h ht
  rw [ht]
  exact this
 ·have := rbody_125 b xs e m vN vQ d w hm hf hx h ht
  rw [ht]
  exact this
 ·have := rbody_126 b xs e m vN vQ d w hm hf hx h ht
  rw [ht]
  exact this
 ·have := rbody_127 b xs e m vN vQ d w hm hf hx h ht
  rw [ht]
  exact this
end
end Go.Proofs.YtlmojhlacfjmaaaGreat
