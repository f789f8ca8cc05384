/- The qid of a node, in the program and in the reference. Conditions: numbers in their types. -/
import Derived.Test.YtpmlhmficmillaaGreatNodBZ
import Derived.Test.YtpmlhmficmillaaGreatBunNE
namespace Go.Proofs.YtpmlhmficmillaaGreat
open Go.RowKit
set_option maxRecDepth 100000
set_option linter.unusedVariables false

def typeN (m : Nat) : Nat := m / 16777216 &&& 224
theorem type_bits (m : Nat) (hm : m < 4294967296) : bits .and .u8 ((m : Int) / 16777216) 224 = ((typeN m : Nat) : Int) := by
  rw [show (m : Int) / 16777216 = ((m / 16777216 : Nat) : Int) from rfl, show (224 : Int) = ((224 : Nat) : Int) from rfl, u8_and_nat _ _ (by omega) (by omega)]
  rfl

theorem qtype_any (m : Nat) (w : World) (hm : m < 4294967296) :
    Calls Tryz.prog 54 #[.int .u32 (m : Int)] w fun e w' => e = .returned (.int .u8 (typeN m : Int)) ∧ w' = w := by
  have hE := hid (type_bits m hm)
  go_enter Tryz.func54, Tryz.ntmps54
  go_wp2_with fail
  go_ret
  exact ⟨ret_int (by rw [hE.out]), rfl⟩

def qidC (n : Nod) : Array Value := #[.int .u8 (typeN n.mode : Int), .int .u32 (n.vers : Int), .int .u64 (n.path : Int)]

set_option maxHeartbeats 1600000 in
theorem nqid_any (n : Nod) (w : World) (hn : NodOk n) :
    Calls Tryz.prog 29 #[.agg n.cells] w fun e w' => e = .returned (.agg (qidC n)) ∧ Below w.heap.size w w' := by
  obtain ⟨W, hW⟩ : ∃ W, W = (w.alloc (.cells n.cells 28)).alloc (.cells #[.int .u8 0, .int .u32 0, .int .u64 0] 59) := ⟨_, rfl⟩
  have hb0 : Below w.heap.size w W := by rw [hW]; exact ((Below.refl w.heap.size w).alloc (Nat.le_refl _) _).alloc (by simp) _
  have hx : W.heap[w.heap.size]? = some (.cells n.cells 28 (0, 0)) := by rw [hW, heap_alloc_old _ _ (by simp), heap_alloc_new]
  have hy : W.heap[w.heap.size + 1]? = some (.cells #[.int .u8 0, .int .u32 0, .int .u64 0] 59 (0, 0)) := by
    rw [hW]
    have := heap_alloc_new (w.alloc (.cells n.cells 28)) (.cells #[.int .u8 0, .int .u32 0, .int .u64 0] 59)
    simpa using this
  have hm := hn.mode
  rw [nod_cells] at hx hW ⊢
  have c0 : W.drew.cell? ⟨w.heap.size, 0, none⟩ = some (.int .u64 (n.path : Int)) := block_cell hx 0
  have c1 : W.drew.cell? ⟨w.heap.size, 1, none⟩ = some (.int .u32 (n.vers : Int)) := block_cell hx 1
  have c2 : W.drew.cell? ⟨w.heap.size, 2, none⟩ = some (.int .u32 (n.mode : Int)) := block_cell hx 2
  have g0 : W.cell? ⟨w.heap.size + 1, 0, none⟩ = some (.int .u8 0) := block_cell hy 0
  have g1 : W.cell? ⟨w.heap.size + 1, 1, none⟩ = some (.int .u32 0) := block_cell hy 1
  have g2 : W.cell? ⟨w.heap.size + 1, 2, none⟩ = some (.int .u64 0) := block_cell hy 2
  have f0 : W.frozen? ⟨w.heap.size + 1, 0, none⟩ = false := block_free hy 0
  have f1 : W.frozen? ⟨w.heap.size + 1, 1, none⟩ = false := block_free hy 1
  have f2 : W.frozen? ⟨w.heap.size + 1, 2, none⟩ = false := block_free hy 2
  have ff0 : W.drew.frozen? ⟨w.heap.size + 1, 0, none⟩ = false := f0
  have gg0 : W.drew.cell? ⟨w.heap.size + 1, 0, none⟩ = some (.int .u8 0) := g0
  have hz4 := hid (block_set (block_set (block_set hy 0 (.int .u8 (typeN n.mode : Int))) 1 (.int .u32 (n.vers : Int))) 2 (.int .u64 (n.path : Int)))
  have hzB := hid (((hb0.setCell (p := ⟨w.heap.size + 1, 0, none⟩) (by simp) (.int .u8 (typeN n.mode : Int))).setCell (p := ⟨w.heap.size + 1, 1, none⟩) (by simp) (.int .u32 (n.vers : Int))).setCell (p := ⟨w.heap.size + 1, 2, none⟩) (by simp) (.int .u64 (n.path : Int))).drew
  have hx9 : Hid ((((W.setCell ⟨w.heap.size + 1, 0, none⟩ (.int .u8 (typeN n.mode : Int))).setCell ⟨w.heap.size + 1, 1, none⟩ (.int .u32 (n.vers : Int))).setCell ⟨w.heap.size + 1, 2, none⟩ (.int .u64 (n.path : Int))).drew.heap[w.heap.size]? = _) := hid ((block_set_other (by show _ ≠ _; simp)).trans ((block_set_other (by show _ ≠ _; simp)).trans ((block_set_other (by show _ ≠ _; simp)).trans hx)))
  have hqt := hid (fun W => qtype_any n.mode W hm)
  replace hx := hid hx
  replace hy := hid hy
  replace hb0 := hid hb0
  replace hn := hid hn
  go_enter Tryz.func29, Tryz.ntmps29
  go_wp2_with (rw [← hW]; replace hW := hid hW)
  go_region_held3 (fun w' => w'.cell? ⟨w.heap.size, 0, none⟩ = some (.int .u64 (n.path : Int)) ∧ w'.cell? ⟨w.heap.size, 1, none⟩ = some (.int .u32 (n.vers : Int)) ∧ w'.cell? ⟨w.heap.size, 2, none⟩ = some (.int .u32 (n.mode : Int)))
    (first | exact ⟨c0, c1, c2⟩ | exact ⟨block_cell hx9.out 0, block_cell hx9.out 1, block_cell hx9.out 2⟩ | go_keep)
    ((go_at_call 54; (with_reducible refine (hqt.out _).mono ?_); rintro e w1 ⟨rfl, rfl⟩))
  clear c0 c1 c2 g0 g1 g2 f0 f1 f2 ff0 gg0
  all_goals
    go_wp2_with fail
    refine bodyPost_ret (results_cell_row rfl _ _ (w.heap.size + 1) _ _ _ _ rfl hz4.out Tryz.underlying59 rfl (by kernel_rfl)) rfl ?_
    exact ⟨rfl, hzB.out⟩

end Go.Proofs.YtpmlhmficmillaaGreat
