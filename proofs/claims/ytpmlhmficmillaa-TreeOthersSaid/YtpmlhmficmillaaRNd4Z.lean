/- A tree as the reference's: Of. Conditions: at most a thousand nodes. -/
import Derived.Test.YtpmlhmficmillaaRNd2Z
namespace Go.Proofs.Ytpmlhmficmillaa
open Go.RowKit
set_option maxRecDepth 100000
set_option linter.unusedVariables false

set_option maxHeartbeats 6400000 in
theorem of14_any (v : Value) (x : Nat) (l : List Nod) (w : World) (hv : NodsAt w v l) (hl : l.length ≤ 1000) :
    Calls Try.prog 11 #[.agg #[.int .u64 (x : Int), v]] w (SetPost w x l) := by
  obtain ⟨a, c, rfl, g1, g2⟩ := hv.form
  unfold maxLen at g2
  obtain ⟨W, hW⟩ : ∃ W, W = ((w.alloc (.cells #[.int .u64 (x : Int), .slice a l.length c] 25)).alloc (.cells #[.int .u64 0, .slice none 0 0] 32)).alloc (.cells #[.int .u64 (x : Int), .slice none 0 0] 32) := ⟨_, rfl⟩
  have hb0 : Below w.heap.size w W := by rw [hW]; exact (((Below.refl w.heap.size w).alloc (Nat.le_refl _) _).alloc (by simp) _).alloc (by simp; omega) _
  have hX0 := hid (show W.heap[w.heap.size]? = some (.cells #[.int .u64 (x : Int), .slice a l.length c] 25 (0, 0)) by rw [hW, heap_alloc_old _ _ (by simp; omega), heap_alloc_old _ _ (by simp), heap_alloc_new])
  have hX1 := hid (show W.heap[w.heap.size + 1]? = some (.cells #[.int .u64 0, .slice none 0 0] 32 (0, 0)) by rw [hW, heap_alloc_old _ _ (by simp)]; exact heap2 _ _ _)
  have hXU := hid (show W.heap[w.heap.size + 2]? = some (.cells #[.int .u64 (x : Int), .slice none 0 0] 32 (0, 0)) by
    rw [hW]
    have := heap_alloc_new ((w.alloc (.cells #[.int .u64 (x : Int), .slice a l.length c] 25)).alloc (.cells #[.int .u64 0, .slice none 0 0] 32)) (.cells #[.int .u64 (x : Int), .slice none 0 0] 32)
    simpa using this)
  replace hv := hid hv
  replace hb0 := hid hb0
  go_enter Try.func11, Try.ntmps11
  go_wp2_with (rw [← hW]; replace hW := hid hW)
  try (rw [← hW]; replace hW := hid hW)
  go_loopw [4] (fun kv wr => ∃ (k m : Nat) (ov : Value) (acc : List Nod), k ≤ l.length ∧ kv = .int .i64 (k : Int) ∧ Hid (acc = l.take k) ∧ Hid (wr.heap[w.heap.size + 2]? = some (.cells #[.int .u64 (x : Int), ov] 32 (0, 0))) ∧ Hid (wr.heap[w.heap.size]? = some (.cells #[.int .u64 (x : Int), .slice a l.length c] 25 (0, 0))) ∧ Hid (wr.heap[w.heap.size + 1]? = some (.cells #[.int .u64 0, .slice none 0 0] 32 (0, 0))) ∧ Hid (wr.ownsRow (w.heap.size + 3) 71 12 ov m (nodsL acc)) ∧ Hid (Below w.heap.size w wr) ∧ Hid (m = acc.length)) (fun kv _ => l.length - (intOf kv).toNat)
  case atStart => exact ⟨0, 0, .slice none 0 0, [], by omega, rfl, hid rfl, hXU, hX0, hX1, hid (World.ownsRow_nil _ _ _ _), hb0, hid rfl⟩
  case round =>
    clear hX0 hX1 hXU hb0
    obtain ⟨k, m, ov, acc, hk, rfl, hacc, hXU, hX0, hX1, hown, hB, hm⟩ := hrel
    obtain ⟨oa, oc, rfl⟩ := own_form hown.out
    have hmk : m ≤ 1000 := by rw [hm.out, hacc.out]; simp; omega
    have e1 := block_cell hX0.out 1
    have e2 := block_cell hXU.out 1
    by_cases hkl : k < l.length
    · obtain ⟨b, o, ha, hr⟩ := (hv.out.below hB.out).range k hkl
      subst ha
      have hst := hid (show l.take (k + 1) = l.take k ++ [l[k]] from List.take_succ_eq_append_getElem hkl)
      generalize l[k] = n at *
      have ha2 := hid (show acc ++ [n] = l.take (k + 1) by rw [hst.out, hacc.out])
      have hoc : Hid (∀ Z, Calls Try.prog 28 #[.agg #[.int .u64 (n.path : Int), .int .u32 (n.vers : Int), .int .u32 (n.mode : Int), .int .u32 (n.atm : Int), .int .u32 (n.mtm : Int), .string n.name, .string n.uid, .string n.gid, .string n.muid, .int .u64 (n.up : Int), .bool n.gone, .string n.data]] Z fun e w' => e = .returned (.agg #[.int .u64 (n.path : Int), .int .u32 (n.vers : Int), .int .u32 (n.mode : Int), .int .u32 (n.atm : Int), .int .u32 (n.mtm : Int), .string n.name, .string n.uid, .string n.gid, .string n.muid, .int .u64 (n.up : Int), .bool n.gone, .string n.data]) ∧ Below Z.heap.size Z w') := hid (fun Z => by rw [← nod_cells]; exact ofnode_any n Z)
      replace hr := hid hr
      clear hst hacc
      have k2 : wr.drew.cell? ⟨w.heap.size + 2, 1, none⟩ = some (.slice oa m oc) := e2
      have k3 : wr.drew.cell? ⟨w.heap.size, 1, none⟩ = some (.slice (some ⟨b, o, none⟩) l.length c) := e1
      have s0 : wr.drew.cell? ⟨b, o + k * 12, none⟩ = some (.int .u64 (n.path : Int)) := by have := hr.out 0 (.int .u64 (n.path : Int)) (by rw [nod_cells]; rfl); rwa [Nat.add_zero] at this
      have s1 : wr.drew.cell? ⟨b, o + k * 12 + 1, none⟩ = some (.int .u32 (n.vers : Int)) := hr.out 1 _ (by rw [nod_cells]; rfl)
      have s2 : wr.drew.cell? ⟨b, o + k * 12 + 2, none⟩ = some (.int .u32 (n.mode : Int)) := hr.out 2 _ (by rw [nod_cells]; rfl)
      have s3 : wr.drew.cell? ⟨b, o + k * 12 + 3, none⟩ = some (.int .u32 (n.atm : Int)) := hr.out 3 _ (by rw [nod_cells]; rfl)
      have s4 : wr.drew.cell? ⟨b, o + k * 12 + 4, none⟩ = some (.int .u32 (n.mtm : Int)) := hr.out 4 _ (by rw [nod_cells]; rfl)
      have s5 : wr.drew.cell? ⟨b, o + k * 12 + 5, none⟩ = some (.string n.name) := hr.out 5 _ (by rw [nod_cells]; rfl)
      have s6 : wr.drew.cell? ⟨b, o + k * 12 + 6, none⟩ = some (.string n.uid) := hr.out 6 _ (by rw [nod_cells]; rfl)
      have s7 : wr.drew.cell? ⟨b, o + k * 12 + 7, none⟩ = some (.string n.gid) := hr.out 7 _ (by rw [nod_cells]; rfl)
      have s8 : wr.drew.cell? ⟨b, o + k * 12 + 8, none⟩ = some (.string n.muid) := hr.out 8 _ (by rw [nod_cells]; rfl)
      have s9 : wr.drew.cell? ⟨b, o + k * 12 + 9, none⟩ = some (.int .u64 (n.up : Int)) := hr.out 9 _ (by rw [nod_cells]; rfl)
      have s10 : wr.drew.cell? ⟨b, o + k * 12 + 10, none⟩ = some (.bool n.gone) := hr.out 10 _ (by rw [nod_cells]; rfl)
      have s11 : wr.drew.cell? ⟨b, o + k * 12 + 11, none⟩ = some (.string n.data) := hr.out 11 _ (by rw [nod_cells]; rfl)
      have i1 : (0 : Int) ≤ (k : Int) := by omega
      have i2 : (k : Int) < (l.length : Int) := by omega
      go_wp2_with fail
      have hbw := hid (show b < w.heap.size by
        obtain ⟨b', o', ha', hr'⟩ := hv.out.range k hkl
        cases ha'
        exact World.block_lt_of_cell? _ _ (hr' 0 _ (by rw [nod_cells]; rfl)))
      have hUs := hid (lt_of_block hXU.out)
      go_region_law (first
          | (refine step_append_row elemRN _ rfl (.tmp 16) (.tmp 23) rfl (w.heap.size + 3) (.slice oa m oc) m (nodsL acc) rfl hownA.out _ 1 n.cells.toList rfl hsrc.out (by intro u hu; exact (Array.all_eq_true_iff_forall_mem.1 (nod_one n)) u (by simpa using hu)) (by unfold maxLen; omega) (by omega) (by simp; omega) ?_; intro a' c' w' h2 h3; have hbU := (h3.block (w.heap.size + 2) (by simp; omega) (fun e => by have := (hvl.out _ e.symm).1; omega)).trans hXUA.out; have hb1 := (h3.block (w.heap.size + 1) (by simp; omega) (fun e => by have := (hvl.out _ e.symm).1; omega)).trans hX1A.out; have hb0 := (h3.block w.heap.size (by simp; omega) (fun e => by have := (hvl.out _ e.symm).1; omega)).trans hX0A.out; have y1 : w'.frozen? ⟨w.heap.size + 2, 1, none⟩ = false := block_free hbU 1; have y2 : w'.cell? ⟨w.heap.size + 2, 1, none⟩ = some (.slice oa m oc) := block_cell hbU 1; have nU := hid (block_set hbU 1 (.slice a' (m + 1) c')); have n1 := hid ((block_set_other (p := ⟨w.heap.size + 2, 1, none⟩) (u := .slice a' (m + 1) c') (by show w.heap.size + 1 ≠ w.heap.size + 2; omega)).trans hb1); have n0 := hid ((block_set_other (p := ⟨w.heap.size + 2, 1, none⟩) (u := .slice a' (m + 1) c') (by show w.heap.size ≠ w.heap.size + 2; omega)).trans hb0); have hown2 := hid (ownsRow_setCell_below h2 (a := ⟨w.heap.size + 2, 1, none⟩) (by show w.heap.size + 2 < w.heap.size + 3; omega) (.slice a' (m + 1) c')); have hB2 := hid ((hBA.out.grown h3 (by simp; omega) (fun j hj => by have := (hvl.out j hj).1; omega)).setCell (a := w) (p := ⟨w.heap.size + 2, 1, none⟩) (by show w.heap.size ≤ w.heap.size + 2; omega) (.slice a' (m + 1) c')))
          | (go_simp; go_at_call 28; (with_reducible refine (hoc.out _).mono ?_); rintro e w3 ⟨rfl, hb3⟩; have hD := (Below.refl wr.heap.size wr).drew.trans hb3; have hA := (Below.refl w3.heap.size w3).alloc (Nat.le_refl _) (.cells #[.int .u64 (n.path : Int), .int .u32 (n.vers : Int), .int .u32 (n.mode : Int), .int .u32 (n.atm : Int), .int .u32 (n.mtm : Int), .string n.name, .string n.uid, .string n.gid, .string n.muid, .int .u64 (n.up : Int), .bool n.gone, .string n.data] 71); have hownA := hid (own_keep (own_keep hown.out (fun j hj => hD.block j (hown.out.lt j hj).2)) (fun j hj => hA.block j (Nat.lt_of_lt_of_le (hown.out.lt j hj).2 hD.size))); have hXUA := hid ((hA.block _ (Nat.lt_of_lt_of_le (lt_of_block hXU.out) hD.size)).trans ((hD.block _ (lt_of_block hXU.out)).trans hXU.out)); have hX1A := hid ((hA.block _ (Nat.lt_of_lt_of_le (lt_of_block hX1.out) hD.size)).trans ((hD.block _ (lt_of_block hX1.out)).trans hX1.out)); have hX0A := hid ((hA.block _ (Nat.lt_of_lt_of_le (lt_of_block hX0.out) hD.size)).trans ((hD.block _ (lt_of_block hX0.out)).trans hX0.out)); have k4 : w3.cell? ⟨w.heap.size + 2, 1, none⟩ = some (.slice oa m oc) := block_cell ((hD.block _ (lt_of_block hXU.out)).trans hXU.out) 1; have k5 : (w3.alloc (.cells #[.int .u64 (n.path : Int), .int .u32 (n.vers : Int), .int .u32 (n.mode : Int), .int .u32 (n.atm : Int), .int .u32 (n.mtm : Int), .string n.name, .string n.uid, .string n.gid, .string n.muid, .int .u64 (n.up : Int), .bool n.gone, .string n.data] 71)).cell? ⟨w.heap.size + 2, 1, none⟩ = some (.slice oa m oc) := block_cell hXUA.out 1; have hBA := hid (hB.out.trans ((hD.mono hB.out.size).trans (hA.mono (Nat.le_trans hB.out.size hD.size)))); have hsrc : Hid (RowAt (w3.alloc (.cells #[.int .u64 (n.path : Int), .int .u32 (n.vers : Int), .int .u32 (n.mode : Int), .int .u32 (n.atm : Int), .int .u32 (n.mtm : Int), .string n.name, .string n.uid, .string n.gid, .string n.muid, .int .u64 (n.up : Int), .bool n.gone, .string n.data] 71)) 12 (.slice (some ⟨w3.heap.size, 0, none⟩) 1 1) 1 n.cells.toList) := hid (RowAt.of_block (n := 1) (heap_alloc_new _ _) rfl (by unfold maxLen; omega)); have hlt3 : w.heap.size + 2 < w3.heap.size := Nat.lt_of_lt_of_le (lt_of_block hXU.out) hD.size; have hvl := hid hown.out.lt; replace hD := hid hD; replace hA := hid hA))
      all_goals
        clear k2 s0 s1 s2 s3 s4 s5 s6 s7 s8 s9 s10 s11 k3 e1 e2 i1 i2 y1 y2 h2 h3 hbU hb1 hb0
        go_wp2_with fail
        go_roundw
        case rel => exact ⟨k + 1, m + 1, _, acc ++ [n], by omega, by go_num, ha2, nU, n0, n1, by rw [nodsL_append, show nodsL [n] = n.cells.toList by simp [nodsL]]; exact hown2, hB2, hid (by rw [List.length_append, ← hm.out]; rfl)⟩
        case measure => simp [intOf]; omega
    · obtain rfl : k = l.length := by omega
      have hacc2 : acc = l := by have := hacc.out; rwa [List.take_length] at this
      replace hacc2 := hid hacc2
      have y0 := block_cell hXU.out 0
      have y1 := block_cell hXU.out 1
      have hzz := hid (setRow_heap wr (w.heap.size + 1) #[.int .u64 0, .slice none 0 0] #[.int .u64 (x : Int), .slice oa m oc] _ _ hX1.out)
      have hBz := hid (below_setRow (g := w.heap.size + 1) hB.out (by omega) #[.int .u64 (x : Int), .slice oa m oc])
      have hF := hid (fun j hj => (hown.out.lt j hj).1)
      have hN := hid (NodsAt.other (w' := wr.setRow (w.heap.size + 1) #[.int .u64 (x : Int), .slice oa m oc]) (NodsAt.of_own hown.out) (w.heap.size + 1) (fun e => by have := hF.out _ e; omega) (by simp) (fun k hk => setRow_other _ _ _ _ hk))
      go_wp2_with (refine wpList_store_row (by rfl) 32 (.tmp 2) (.tmp 26) (by rfl) (w.heap.size + 1) #[.int .u64 (x : Int), .slice oa m oc] (by rfl) (by rfl) 32 _ hX1.out (by kernel_rfl) (by kernel_rfl) (by kernel_rfl) ?_)
      refine bodyPost_ret (results_cell_row rfl _ _ (w.heap.size + 1) _ _ _ _ rfl hzz.out Try.underlying32 (by rfl) (by kernel_rfl)) rfl ?_
      exact ⟨.slice oa m oc, rfl, by rw [← hacc2.out]; exact hN.out, fun k hk => by have := hF.out k hk; omega, hBz.out⟩
end Go.Proofs.Ytpmlhmficmillaa
