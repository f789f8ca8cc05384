/- For every type, tag and error number law MsgKinds returns true. No condition. -/
import Derived.Test.YtonhliipbdniiaaBunQ
namespace Go.Proofs.Ytonhliipbdniiaa
open Go.RowKit
set_option maxRecDepth 100000
set_option linter.unusedVariables false

set_option maxHeartbeats 3200000 in
theorem law_MsgKinds (t tag e : Nat) (w : World) (ht : t < 256) (htag : tag < 65536) (he : e < 256) : Calls Try.prog 6 #[.int .u8 (t : Int), .int .u16 (tag : Int), .int .u8 (e : Int)] w (Holds w) := by
  have c1 : IntKind.i64.wrap (e : Int) = (e : Int) := IntWalk.i64_in _ (by omega)
  go_enter Try.func6, Try.ntmps6
  go_wp2_with fail
  refine (known5 w).mono ?_
  rintro en w1 ⟨rfl, hb1⟩
  go_wp2_with fail
  refine (merror_any tag e _ htag).mono ?_
  rintro en w2 ⟨rfl, hb2⟩
  have hB2 := hid (sn hb1 hb2)
  have hnew := hid (heap_alloc_new w2 (.cells (zeroM.cells (.slice none 0 0) (.slice none 0 0) (.slice none 0 0)) 66))
  obtain ⟨W, hW⟩ : ∃ W, W = (w2.alloc (.cells (zeroM.cells (.slice none 0 0) (.slice none 0 0) (.slice none 0 0)) 66)).setRow w2.heap.size ((errM tag e).cells (.slice none 0 0) (.slice none 0 0) (.slice none 0 0)) := ⟨_, rfl⟩
  have hbW : Below w2.heap.size w2 W := by rw [hW]; exact below_setRow ((Below.refl _ _).alloc (Nat.le_refl _) _) (Nat.le_refl _) _
  have hr : W.heap[w2.heap.size]? = some (.cells ((errM tag e).cells (.slice none 0 0) (.slice none 0 0) (.slice none 0 0)) 66 (0, 0)) := by rw [hW]; exact setRow_heap _ _ _ _ _ _ hnew.out
  have hBW := hid (sn hB2.out hbW)
  have e0 : W.drew.cell? ⟨w2.heap.size, 0, none⟩ = some (.int .u8 107) := block_cell hr 0
  have e1 : W.drew.cell? ⟨w2.heap.size, 1, none⟩ = some (.int .u16 (tag : Int)) := block_cell hr 1
  have e9 : W.drew.cell? ⟨w2.heap.size, 9, none⟩ = some (.string (wordS e)) := block_cell hr 9
  rw [nil_cells] at hnew hW
  have n1 := hid (known_any t W.drew ht)
  have n2 := hid (rknown_any t W.drew ht)
  have n3 := hid (ask_any t W.drew ht)
  have n4 := hid (rask_any t W.drew ht)
  have n5 := hid (rword_any e W.drew he)
  have hlt : w2.heap.size < W.heap.size := lt_of_block hr
  replace hr := hid hr
  replace hbW := hid hbW
  clear hb1 hb2
  generalize wordS e = S at e9 n5
  go_wp2_with (first
    | (refine wpList_store_row (by rfl) 66 (.tmp 7) (.tmp 13) (by rfl) w2.heap.size _ (by rfl) (by rfl) 66 _ hnew.out (by kernel_rfl) (by kernel_rfl) (by kernel_rfl) ?_)
    | (rw [← hW]; replace hW := hid hW))
  go_region_held3 (fun w' => w'.cell? ⟨w2.heap.size, 0, none⟩ = some (.int .u8 107) ∧ w'.cell? ⟨w2.heap.size, 1, none⟩ = some (.int .u16 (tag : Int)) ∧ w'.cell? ⟨w2.heap.size, 9, none⟩ = some (.string S))
    (first | exact k5 | go_keep)
    (first
      | (go_at_call 27; refine n1.out.mono ?_; rintro en u1 ⟨rfl, rfl⟩)
      | (go_at_call 28; refine n2.out.mono ?_; rintro en u2 ⟨rfl, rfl⟩)
      | (go_at_call 29; refine n3.out.mono ?_; rintro en u3 ⟨rfl, rfl⟩)
      | (go_at_call 30; refine n4.out.mono ?_; rintro en u4 ⟨rfl, rfl⟩)
      | (go_at_call 31; refine n5.out.mono ?_; rintro en u5 ⟨rfl, hb5⟩; have k5 := And.intro ((hb5.cell (p := ⟨w2.heap.size, 0, none⟩) hlt).trans e0) (And.intro ((hb5.cell (p := ⟨w2.heap.size, 1, none⟩) hlt).trans e1) ((hb5.cell (p := ⟨w2.heap.size, 9, none⟩) hlt).trans e9))))
  go_wp2_with fail
  go_ret
  exact ⟨rfl, sn (hBW.out.drew) hb5⟩

theorem law_MsgKindsI (x y z : Int) (w : World) (hx : 0 ≤ x ∧ x < 256) (hy : 0 ≤ y ∧ y < 65536) (hz : 0 ≤ z ∧ z < 256) : Calls Try.prog 6 #[.int .u8 x, .int .u16 y, .int .u8 z] w fun e w' => e = .returned (.bool true) ∧ Below w.heap.size w w' := by
  obtain ⟨t, rfl⟩ := Int.eq_ofNat_of_zero_le hx.1
  obtain ⟨g, rfl⟩ := Int.eq_ofNat_of_zero_le hy.1
  obtain ⟨e, rfl⟩ := Int.eq_ofNat_of_zero_le hz.1
  exact law_MsgKinds t g e w (by omega) (by omega) (by omega)
end Go.Proofs.Ytonhliipbdniiaa
