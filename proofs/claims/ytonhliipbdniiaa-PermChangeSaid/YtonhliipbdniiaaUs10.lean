/- What Of of layer 15 does. Conditions: groups that fit into a slice. -/
import Derived.Test.YtonhliipbdniiaaUs9
namespace Go.Proofs.Ytonhliipbdniiaa
open Go.RowKit
set_option maxRecDepth 100000
set_option linter.unusedVariables false

def UOfPost (w : World) (uv : Value) (us : List ByteArray) (gs : List Grp) (e : Ending) (w' : World) : Prop :=
  ∃ gv, e = .returned (.agg #[uv, gv]) ∧ TxtsAt w' uv us ∧ GrpsAt w' gv gs ∧ Below w.heap.size w w'

set_option maxHeartbeats 6400000 in
theorem of15_any (uv gv : Value) (us : List ByteArray) (gs : List Grp) (w : World) (h2 : TxtsAt w uv us) (h3 : GrpsAt w gv gs) (hlg : gs.length * 40 ≤ 140737488355328) :
    Calls Try.prog 10 #[uv, gv] w (UOfPost w uv us gs) := by
  obtain ⟨au, cu, rfl, gu1, gu2⟩ := h2.form
  obtain ⟨ag, cg, rfl, gg1, gg2⟩ := h3.form
  unfold maxLen at gu2 gg2
  obtain ⟨W, hW⟩ : ∃ W, W = (w.alloc (.cells #[.slice none 0 0, .slice none 0 0] 31)).alloc (.cells #[.slice au us.length cu, .slice none 0 0] 31) := ⟨_, rfl⟩
  have hb0 : Below w.heap.size w W := by rw [hW]; exact ((Below.refl w.heap.size w).alloc (Nat.le_refl _) _).alloc (by simp) _
  have hx : W.heap[w.heap.size + 1]? = some (.cells #[.slice au us.length cu, .slice none 0 0] 31 (0, 0)) := by
    rw [hW]
    have := heap_alloc_new (w.alloc (.cells #[.slice none 0 0, .slice none 0 0] 31)) (.cells #[.slice au us.length cu, .slice none 0 0] 31)
    simpa using this
  have hx0 : W.heap[w.heap.size]? = some (.cells #[.slice none 0 0, .slice none 0 0] 31 (0, 0)) := by
    rw [hW, heap_alloc_old _ _ (by simp), heap_alloc_new]
  have hzW : W.heap.size = w.heap.size + 2 := by rw [hW]; simp
  replace hb0 := hid hb0
  replace hx := hid hx
  replace hx0 := hid hx0
  replace hzW := hid hzW
  replace h2 := hid h2
  replace h3 := hid h3
  go_enter Try.func10, Try.ntmps10
  go_wp2_with (rw [← hW]; replace hW := hid hW)
  try (rw [← hW]; replace hW := hid hW)
  go_loopw [6] (fun kv wr => ∃ (k : Nat) (gvk : Value), k ≤ gs.length ∧ kv = .int .i64 (k : Int) ∧ Hid (wr.heap[w.heap.size + 1]? = some (.cells #[.slice au us.length cu, gvk] 31 (0, 0))) ∧ Hid (wr.heap[w.heap.size]? = some (.cells #[.slice none 0 0, .slice none 0 0] 31 (0, 0))) ∧ Hid (wr.ownsRow (w.heap.size + 2) 61 2 gvk k ((gs.take k).flatMap Grp.cells)) ∧ Hid (Below w.heap.size w wr)) (fun kv _ => gs.length - (intOf kv).toNat)
  case atStart => exact ⟨0, .slice none 0 0, by omega, rfl, hx, hx0, hid (World.ownsRow_nil _ _ _ _), hb0⟩
  case round =>
    obtain ⟨k, gvk, hk1, rfl, hx1, hx0, hown, hB⟩ := hrel
    obtain ⟨ak, ck, rfl⟩ := own_form hown.out
    have d1 : wr.cell? ⟨w.heap.size + 1, 1, none⟩ = some (.slice ak k ck) := block_cell hx1.out 1
    by_cases hkl : k < gs.length
    · obtain ⟨b1, o1, ha1, hc1, hc2, hm⟩ := GrpsAt.cell (h3.out.below hB.out) k hkl
      subst ha1
      obtain ⟨am, cm, hmv, gm1, gm2⟩ := hm.form
      have hfl := hid (flat_succ hkl)
      clear hm
      obtain ⟨g, hg1⟩ : ∃ g, g = gs[k] := ⟨_, rfl⟩
      rw [← hg1] at hc1 hc2 hmv gm1 hfl
      replace hg1 := hid hg1
      obtain ⟨nm, mv, mem⟩ := g
      simp only at hc1 hc2 hmv gm1 hfl
      subst hmv
      have i1 : (0 : Int) ≤ (k : Int) := by omega
      have i2 : (k : Int) < (gs.length : Int) := by omega
      have hD := (Below.refl wr.heap.size wr).drew
      have hA := (Below.refl wr.drew.heap.size wr.drew).alloc (Nat.le_refl _) (.cells #[.string nm, .slice am mem.length cm] 61)
      have hDA : Hid (Below wr.heap.size wr (wr.drew.alloc (.cells #[.string nm, .slice am mem.length cm] 61))) := hid (hD.trans hA)
      have hownA := hid (own_keep hown.out (fun j hj => hDA.out.block j (hown.out.lt j hj).2))
      have hsrc : Hid (RowAt (wr.drew.alloc (.cells #[.string nm, .slice am mem.length cm] 61)) 2 (.slice (some ⟨wr.drew.heap.size, 0, none⟩) 1 1) 1 [.string nm, .slice am mem.length cm]) := hid (RowAt.of_block (n := 1) (heap_alloc_new _ _) rfl (by unfold maxLen; omega))
      have hlt1 := lt_of_block hx1.out
      have hlt0 := lt_of_block hx0.out
      have hx1A := hid ((hDA.out.block _ hlt1).trans hx1.out)
      have hx0A := hid ((hDA.out.block _ hlt0).trans hx0.out)
      have hBA := hid (hB.out.trans (hDA.out.mono hB.out.size))
      have hvl := hid hown.out.lt
      have k1 : (wr.drew.alloc (.cells #[.string nm, .slice am mem.length cm] 61)).cell? ⟨w.heap.size + 1, 1, none⟩ = some (.slice ak k ck) := block_cell hx1A.out 1
      have s1 : wr.drew.cell? ⟨w.heap.size + 1, 1, none⟩ = some (.slice ak k ck) := d1
      have s2 : wr.drew.cell? ⟨b1, o1 + k * 2, none⟩ = some (.string nm) := hc1
      have s3 : wr.drew.cell? ⟨b1, o1 + k * 2 + 1, none⟩ = some (.slice am mem.length cm) := hc2
      replace hA := hid hA
      replace hD := hid hD
      replace hx1 := hid hx1
      go_wp2_with fail
      go_region_law ((refine step_append_row elemRGrp _ rfl (.tmp 16) (.tmp 28) rfl (w.heap.size + 2) (.slice ak k ck) k _ rfl hownA.out _ 1 [.string nm, .slice am mem.length cm] rfl hsrc.out (by intro u hu; simp at hu; rcases hu with rfl | rfl <;> rfl) (by unfold maxLen; omega) (by omega) (by simp; omega) ?_; intro a' c' w' h2 h3; have hb1 := (h3.block (w.heap.size + 1) (by simp; omega) (fun e => by have := (hvl.out _ e.symm).1; omega)).trans hx1A.out; have hb0 := (h3.block w.heap.size (by simp; omega) (fun e => by have := (hvl.out _ e.symm).1; omega)).trans hx0A.out; have f1 : w'.frozen? ⟨w.heap.size + 1, 1, none⟩ = false := block_free hb1 1; have f2 : w'.cell? ⟨w.heap.size + 1, 1, none⟩ = some (.slice ak k ck) := block_cell hb1 1; have n1 := hid (block_set hb1 1 (.slice a' (k + 1) c')); have n0 := hid ((block_set_other (p := ⟨w.heap.size + 1, 1, none⟩) (u := .slice a' (k + 1) c') (by show _ ≠ _; simp)).trans hb0); have hown2 := hid (ownsRow_setCell_below h2 (a := ⟨w.heap.size + 1, 1, none⟩) (by show w.heap.size + 1 < w.heap.size + 2; omega) (.slice a' (k + 1) c')); have hB2 := hid ((hBA.out.grown h3 (by simp; omega) (fun j hj => by have := (hvl.out j hj).1; omega)).setCell (a := w) (p := ⟨w.heap.size + 1, 1, none⟩) (by show w.heap.size ≤ w.heap.size + 1; omega) (.slice a' (k + 1) c')); clear h2 h3; replace hb1 := hid hb1; replace hb0 := hid hb0))
      all_goals
        clear s1 s2 s3 k1 hown hownA hvl hA hD hsrc hBA d1 hc1 hc2 i1 i2 f1 f2 hx1A hx0A
        go_wp2_with fail
        go_roundw
        case rel => exact ⟨k + 1, _, by omega, by go_num, n1, n0, hid (by rw [hfl.out]; exact hown2.out), hB2⟩
        case measure => simp [intOf]; omega
    · obtain rfl : k = gs.length := by omega
      rw [List.take_length] at hown
      have d0 : wr.cell? ⟨w.heap.size + 1, 0, none⟩ = some (.slice au us.length cu) := block_cell hx1.out 0
      have y0 : wr.cell? ⟨w.heap.size, 0, none⟩ = some (.slice none 0 0) := block_cell hx0.out 0
      have y1 : wr.cell? ⟨w.heap.size, 1, none⟩ = some (.slice none 0 0) := block_cell hx0.out 1
      have z0 : wr.frozen? ⟨w.heap.size, 0, none⟩ = false := block_free hx0.out 0
      have hxa := block_set hx0.out 0 (.slice au us.length cu)
      have y2 : (wr.setCell ⟨w.heap.size, 0, none⟩ (.slice au us.length cu)).cell? ⟨w.heap.size, 1, none⟩ = some (.slice none 0 0) := block_cell hxa 1
      have z2 : (wr.setCell ⟨w.heap.size, 0, none⟩ (.slice au us.length cu)).frozen? ⟨w.heap.size, 1, none⟩ = false := block_free hxa 1
      have hxb := hid (block_set hxa 1 (.slice ak gs.length ck))
      have hown3 := hid (ownsRow_setCell_below (ownsRow_setCell_below hown.out (a := ⟨w.heap.size, 0, none⟩) (by show w.heap.size < w.heap.size + 2; omega) (.slice au us.length cu)) (a := ⟨w.heap.size, 1, none⟩) (by show w.heap.size < w.heap.size + 2; omega) (.slice ak gs.length ck))
      have hB3 := hid ((hB.out.setCell (p := ⟨w.heap.size, 0, none⟩) (Nat.le_refl _) (.slice au us.length cu)).setCell (p := ⟨w.heap.size, 1, none⟩) (Nat.le_refl _) (.slice ak gs.length ck))
      replace hxa := hid hxa
      go_wp2_with fail
      refine bodyPost_ret (results_cell_row rfl _ _ w.heap.size _ _ _ _ rfl hxb.out Try.underlying31 rfl (by kernel_rfl)) rfl ?_
      refine ⟨.slice ak gs.length ck, rfl, h2.out.below hB3.out, ⟨(RowAt.of_own hown3.out).weak, fun g hg => (h3.out.2 g hg).below hB3.out⟩, hB3.out⟩
end Go.Proofs.Ytonhliipbdniiaa
