/- Is a node a directory; which modes may be; a node as the reference's. Conditions: numbers in their types. -/
import Derived.Test.YtpmlhmficmillaaBunN2
import Derived.Test.YtpmlhmficmillaaBunA
import Derived.Test.YtpmlhmficmillaaBunD
import Derived.Test.YtpmlhmficmillaaBunOW
import Derived.Laws.BitsAllLaws
import Derived.Laws.CopyOwn
namespace Go.Proofs.Ytpmlhmficmillaa
open Go.RowKit
set_option maxRecDepth 100000
set_option linter.unusedVariables false

theorem nodS {n : Nod} {X : World} {k : Nat} {T : TypeId} {fr : Nat × Nat} (h : X.heap[k]? = some (.cells n.cells T fr)) : X.cell? ⟨k, 0, none⟩ = some (.int .u64 (n.path : Int)) ∧ X.cell? ⟨k, 1, none⟩ = some (.int .u32 (n.vers : Int)) ∧ X.cell? ⟨k, 2, none⟩ = some (.int .u32 (n.mode : Int)) ∧ X.cell? ⟨k, 3, none⟩ = some (.int .u32 (n.atm : Int)) ∧ X.cell? ⟨k, 4, none⟩ = some (.int .u32 (n.mtm : Int)) ∧ X.cell? ⟨k, 5, none⟩ = some (.string n.name) ∧ X.cell? ⟨k, 6, none⟩ = some (.string n.uid) ∧ X.cell? ⟨k, 7, none⟩ = some (.string n.gid) ∧ X.cell? ⟨k, 8, none⟩ = some (.string n.muid) ∧ X.cell? ⟨k, 9, none⟩ = some (.int .u64 (n.up : Int)) ∧ X.cell? ⟨k, 10, none⟩ = some (.bool n.gone) ∧ X.cell? ⟨k, 11, none⟩ = some (.string n.data) :=
  ⟨block_cell h 0, block_cell h 1, block_cell h 2, block_cell h 3, block_cell h 4, block_cell h 5, block_cell h 6, block_cell h 7, block_cell h 8, block_cell h 9, block_cell h 10, block_cell h 11⟩
def dirB (n : Nod) : Bool := !decide (n.mode &&& 2147483648 = 0)
theorem dir_mode (m : Nat) (h : m < 4294967296) : (bits .and .u32 (m : Int) 2147483648 != 0) = !decide (m &&& 2147483648 = 0) := by
  rw [show (2147483648 : Int) = ((2147483648 : Nat) : Int) from rfl, u32_and_nat _ _ h (by omega)]
  by_cases h0 : m &&& 2147483648 = 0
  · simp [h0]
  · simp [h0]
def bitsB (m : Nat) : Bool := decide (m &&& 536870400 = 0) && (decide (m &&& 2147483648 = 0) || decide (m &&& 1610612736 = 0))
theorem dec_int (a b : Nat) : ((a : Int) == (b : Int)) = decide (a = b) := by
  by_cases h : a = b
  · simp [h]
  · simp only [h, decide_false]
    simp; omega
theorem bits_p1 (m : Nat) (h : m < 4294967296) : (bits .andNot .u32 (m : Int) 3758096895 == 0) = decide (m &&& 536870400 = 0) := by
  rw [show (3758096895 : Int) = ((3758096895 : Nat) : Int) from rfl, u32_andNot_nat _ _ h (by omega)]
  exact dec_int _ 0
theorem bits_p2 (m : Nat) (h : m < 4294967296) : (bits .and .u32 (m : Int) 2147483648 == 0) = decide (m &&& 2147483648 = 0) := by
  rw [show (2147483648 : Int) = ((2147483648 : Nat) : Int) from rfl, u32_and_nat _ _ h (by omega)]
  exact dec_int _ 0
theorem bits_p3 (m : Nat) (h : m < 4294967296) : (bits .and .u32 (m : Int) 1610612736 == 0) = decide (m &&& 1610612736 = 0) := by
  rw [show (1610612736 : Int) = ((1610612736 : Nat) : Int) from rfl, u32_and_nat _ _ h (by omega)]
  exact dec_int _ 0
theorem nbits_any (m : Nat) (w : World) (hm : m < 4294967296) :
    Calls Try.prog 115 #[.int .u32 (m : Int)] w fun e w' => e = .returned (.bool (bitsB m)) ∧ w' = w := by
  have p1 := bits_p1 m hm
  have p2 := bits_p2 m hm
  have p3 := bits_p3 m hm
  have hE : Hid (bitsB m = (decide (m &&& 536870400 = 0) && (decide (m &&& 2147483648 = 0) || decide (m &&& 1610612736 = 0)))) := hid rfl
  generalize decide (m &&& 536870400 = 0) = b1 at *
  generalize decide (m &&& 2147483648 = 0) = b2 at *
  generalize decide (m &&& 1610612736 = 0) = b3 at *
  cases b1 <;> cases b2 <;> cases b3
  all_goals
    go_enter Try.func115, Try.ntmps115
    go_wp2_with fail
    go_ret
    exact ⟨ret_bool (by rw [hE.out]; rfl), rfl⟩

def zeroNode : Array Value := #[.int .u64 0, .int .u32 0, .int .u32 0, .int .u32 0, .int .u32 0, .string ⟨#[]⟩, .string ⟨#[]⟩, .string ⟨#[]⟩, .string ⟨#[]⟩, .int .u64 0, .bool false, .string ⟨#[]⟩]
set_option maxHeartbeats 1600000 in
theorem ofnode_any (n : Nod) (w : World) : Calls Try.prog 28 #[.agg n.cells] w fun e w' => e = .returned (.agg n.cells) ∧ Below w.heap.size w w' := by
  obtain ⟨W, hW⟩ : ∃ W, W = (w.alloc (.cells n.cells 56)).alloc (.cells zeroNode 71) := ⟨_, rfl⟩
  have hx : W.heap[w.heap.size]? = some (.cells n.cells 56 (0, 0)) := by rw [hW, heap_alloc_old _ _ (by simp), heap_alloc_new]
  have hy : W.heap[w.heap.size + 1]? = some (.cells zeroNode 71 (0, 0)) := by rw [hW]; exact heap2 _ _ _
  have hb0 : Below w.heap.size w W := by rw [hW]; exact ((Below.refl w.heap.size w).alloc (Nat.le_refl _) _).alloc (by simp) _
  have hbS : Hid (Below w.heap.size w (W.setRow (w.heap.size + 1) n.cells)) := hid (below_setRow hb0 (by omega) _)
  have hrow : Hid ((W.setRow (w.heap.size + 1) n.cells).heap[w.heap.size + 1]? = some (.cells n.cells 71 (0, 0))) := hid (setRow_heap _ _ _ _ _ _ hy)
  obtain ⟨d0, d1, d2, d3, d4, d5, d6, d7, d8, d9, d10, d11⟩ := nodS hx
  replace hy := hid hy
  replace hx := hid hx
  replace hb0 := hid hb0
  rw [nod_cells] at hW hbS hrow ⊢
  simp only [zeroNode] at hW
  go_enter Try.func28, Try.ntmps28
  go_wp2_with (first | (rw [← hW]; replace hW := hid hW) | (refine wpList_store_row (by rfl) 71 (.tmp 2) (.tmp 27) (by rfl) (w.heap.size + 1) n.cells (by rfl) (by rfl) 71 _ hy.out (by rfl) (by rfl) (nod_one n) ?_))
  refine bodyPost_ret (results_cell_row rfl _ _ (w.heap.size + 1) _ _ _ _ rfl hrow.out Try.underlying71 rfl (by kernel_rfl)) rfl ?_
  exact ⟨rfl, hbS.out⟩

end Go.Proofs.Ytpmlhmficmillaa
