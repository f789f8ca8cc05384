/- What OfNode, few, Few and Born return. Conditions: numbers in their types. -/
import Derived.Test.YtonhliipbdniiaaPm7
namespace Go.Proofs.Ytonhliipbdniiaa
open Go.RowKit
set_option maxRecDepth 100000
set_option linter.unusedVariables false

def SomeBool (w : World) (e : Ending) (w' : World) : Prop := (∃ r, e = .returned (.bool r)) ∧ Below w.heap.size w w'
theorem nod_one (n : Nod) : n.cells.all (·.oneCell') = true := by simp [nod_cells, Value.oneCell']
def zeroNode : Array Value := #[.int .u64 0, .int .u32 0, .int .u32 0, .int .u32 0, .int .u32 0, .string ⟨#[]⟩, .string ⟨#[]⟩, .string ⟨#[]⟩, .string ⟨#[]⟩, .int .u64 0, .bool false, .string ⟨#[]⟩]

set_option maxHeartbeats 1600000 in
theorem ofnode_any (n : Nod) (w : World) : Calls Try.prog 15 #[.agg n.cells] w fun e w' => e = .returned (.agg n.cells) ∧ Below w.heap.size w w' := by
  obtain ⟨W, hW⟩ : ∃ W, W = (w.alloc (.cells n.cells 27)).alloc (.cells zeroNode 38) := ⟨_, rfl⟩
  have hx : W.heap[w.heap.size]? = some (.cells n.cells 27 (0, 0)) := by rw [hW, heap_alloc_old _ _ (by simp), heap_alloc_new]
  have hy : W.heap[w.heap.size + 1]? = some (.cells zeroNode 38 (0, 0)) := by rw [hW]; exact heap2 _ _ _
  have hb0 : Below w.heap.size w W := by rw [hW]; exact ((Below.refl w.heap.size w).alloc (Nat.le_refl _) _).alloc (by simp) _
  have hbS : Hid (Below w.heap.size w (W.setRow (w.heap.size + 1) n.cells)) := hid (below_setRow hb0 (by omega) _)
  have hrow : Hid ((W.setRow (w.heap.size + 1) n.cells).heap[w.heap.size + 1]? = some (.cells n.cells 38 (0, 0))) := hid (setRow_heap _ _ _ _ _ _ hy)
  obtain ⟨d0, d1, d2, d3, d4, d5, d6, d7, d8, d9, d10, d11⟩ := nodS hx
  replace hy := hid hy
  replace hx := hid hx
  replace hb0 := hid hb0
  rw [nod_cells] at hW hbS hrow ⊢
  simp only [zeroNode] at hW
  go_enter Try.func15, Try.ntmps15
  go_wp2_with (first | (rw [← hW]; replace hW := hid hW) | (refine wpList_store_row (by rfl) 38 (.tmp 2) (.tmp 27) (by rfl) (w.heap.size + 1) n.cells (by rfl) (by rfl) 38 _ hy.out (by rfl) (by rfl) (nod_one n) ?_))
  refine bodyPost_ret (results_cell_row rfl _ _ (w.heap.size + 1) _ _ _ _ rfl hrow.out Try.underlying38 rfl (by kernel_rfl)) rfl ?_
  exact ⟨rfl, hbS.out⟩

set_option maxHeartbeats 3200000 in
theorem few16_any (n : Nod) (w : World) (hn : NodOk n) : Calls Try.prog 13 #[.agg n.cells] w (SomeBool w) := by
  obtain ⟨W, hW⟩ : ∃ W, W = w.alloc (.cells n.cells 27) := ⟨_, rfl⟩
  have hx : W.heap[w.heap.size]? = some (.cells n.cells 27 (0, 0)) := by rw [hW, heap_alloc_new]
  have hb0 : Hid (Below w.heap.size w W) := by rw [hW]; exact hid ((Below.refl w.heap.size w).alloc (Nat.le_refl _) _)
  obtain ⟨d0, d1, d2, d3, d4, d5, d6, d7, d8, d9, d10, d11⟩ := nodS hx
  replace hx := hid hx
  obtain ⟨b1, q1⟩ : ∃ b, decide ((n.name.size : Int) ≤ 100) = b := ⟨_, rfl⟩
  obtain ⟨b2, q2⟩ : ∃ b, decide ((n.uid.size : Int) ≤ 100) = b := ⟨_, rfl⟩
  obtain ⟨b3, q3⟩ : ∃ b, decide ((n.gid.size : Int) ≤ 100) = b := ⟨_, rfl⟩
  obtain ⟨b4, q4⟩ : ∃ b, decide ((n.muid.size : Int) ≤ 100) = b := ⟨_, rfl⟩
  obtain ⟨b5, q5⟩ : ∃ b, decide ((n.data.size : Int) ≤ 300) = b := ⟨_, rfl⟩
  obtain ⟨b6, q6⟩ : ∃ b, (bits .and .u32 (n.mode : Int) 2147483648 == 0) = b := ⟨_, rfl⟩
  obtain ⟨b7, q7⟩ : ∃ b, n.data.toList.isEmpty = b := ⟨_, rfl⟩
  rw [nod_cells] at hW ⊢
  have hcs : b1 = false ∨ b1 = true ∧ (b2 = false ∨ b2 = true ∧ (b3 = false ∨ b3 = true ∧ (b4 = false ∨ b4 = true ∧ (b5 = false ∨ b5 = true ∧ (b6 = true ∨ b6 = false))))) := by
    cases b1 <;> cases b2 <;> cases b3 <;> cases b4 <;> cases b5 <;> cases b6 <;> simp
  go_enter Try.func13, Try.ntmps13
  go_upto_region 1 with (rw [← hW]; replace hW := hid hW)
  try (rw [← hW]; replace hW := hid hW)
  rcases hcs with rfl | ⟨rfl, rfl | ⟨rfl, rfl | ⟨rfl, rfl | ⟨rfl, rfl | ⟨rfl, rfl | rfl⟩⟩⟩⟩⟩
  all_goals
    go_wp2_with fail
    go_ret
    exact ⟨⟨_, rfl⟩, hb0.out⟩

set_option maxHeartbeats 1600000 in
theorem few4p_any (s : Stat) (w : World) (hs : StatOk s) : Calls Try.prog 20 #[.agg s.cells] w (SomeBool w) := by
  have hb0 : Hid (Below w.heap.size w (w.alloc (.cells s.cells 50))) := hid ((Below.refl _ _).alloc (Nat.le_refl _) _)
  obtain ⟨kind, dev, qt, qv, qp, mode, atm, mtm, len, name, uid, gid, muid⟩ := s
  replace hs := hid hs
  simp only [Stat.cells] at *
  go_enter Try.func20, Try.ntmps20
  go_wp2
  all_goals
    go_ret
    exact ⟨⟨_, rfl⟩, hb0.out⟩

set_option maxHeartbeats 800000 in
/-- A new file's mode, at the directory that known asks of. -/
theorem born_known (n : Nod) (w : World) (hm : n.mode = 2147484136) : Calls Try.prog 35 #[.agg n.cells, .int .u32 511] w fun e w' => e = .returned (.int .u32 489) ∧ Below w.heap.size w w' := by
  obtain ⟨path, vers, mode, atm, mtm, name, uid, gid, muid, up, gone, data⟩ := n
  simp only at hm
  subst hm
  have hb0 : Hid (Below w.heap.size w (w.alloc (.cells (Nod.cells ⟨path, vers, 2147484136, atm, mtm, name, uid, gid, muid, up, gone, data⟩) 27))) := hid ((Below.refl _ _).alloc (Nat.le_refl _) _)
  rw [nod_cells] at hb0 ⊢
  simp only at hb0 ⊢
  go_enter Try.func35, Try.ntmps35
  go_wp2_with fail
  go_ret
  exact ⟨by rfl, hb0.out⟩
end Go.Proofs.Ytonhliipbdniiaa
