/- How one may open a file, in the reference. Conditions: numbers in their types. -/
import Derived.Test.YtonhliipbdniiaaPm2
namespace Go.Proofs.Ytonhliipbdniiaa
open Go.RowKit
set_option maxRecDepth 100000
set_option linter.unusedVariables false

theorem rdir_any (n : Nod) (w : World) (hn : NodOk n) :
    Calls Try.prog 43 #[.agg n.cells] w fun e w' => e = .returned (.bool (dirB n)) ∧ Below w.heap.size w w' := by
  have hb := (Below.refl w.heap.size w).alloc (Nat.le_refl _) (.cells n.cells 38)
  have hdm := dir_mode n.mode hn.mode
  have hm := hn.mode
  have hE : Hid (dirB n = !decide (n.mode &&& 2147483648 = 0)) := hid rfl
  rw [nod_cells] at hb ⊢
  replace hb := hid hb
  replace hn := hid hn
  replace hdm := hid hdm
  go_enter Try.func43, Try.ntmps43
  go_wp2_with fail
  go_ret
  exact ⟨ret_bool (by rw [hE.out, ← hdm.out]), hb.out⟩

theorem and3z (mode : Nat) (h : mode < 256) : (bits .and .u8 (mode : Int) 3 != 0) = !decide (mode &&& 3 = 0) := by
  rw [show (3 : Int) = ((3 : Nat) : Int) from rfl, u8_and_nat _ _ h (by omega)]
  by_cases h0 : mode &&& 3 = 0
  · simp [h0]
  · simp [h0]
theorem and16z (mode : Nat) (h : mode < 256) : (bits .and .u8 (mode : Int) 16 != 0) = !decide (mode &&& 16 = 0) := by
  rw [show (16 : Int) = ((16 : Nat) : Int) from rfl, u8_and_nat _ _ h (by omega)]
  by_cases h0 : mode &&& 16 = 0
  · simp [h0]
  · simp [h0]
theorem and19_iff (mode : Nat) : decide (mode &&& 19 = 0) = (decide (mode &&& 3 = 0) && decide (mode &&& 16 = 0)) := by
  rw [show (19 : Nat) = 3 ||| 16 from rfl, Nat.and_or_distrib_left, Bool.eq_iff_iff]
  simp

set_option maxHeartbeats 6400000 in
theorem ropen_any (uv gv : Value) (us : List ByteArray) (gs : List Grp) (who : ByteArray) (n : Nod) (mode : Nat) (w : World) (h2 : TxtsAt w uv us) (h3 : GrpsAt w gv gs) (hl : UB us gs) (hn : NodOk n) (hm : mode < 256) :
    Calls Try.prog 19 #[.agg #[uv, gv], .string who, .agg n.cells, .int .u8 (mode : Int)] w fun e w' => e = .returned (.int .i64 (openN us gs who n mode : Int)) ∧ Below w.heap.size w w' := by
  obtain ⟨au, cu, rfl, gu1, gu2⟩ := h2.form
  obtain ⟨ag, cg, rfl, gg1, gg2⟩ := h3.form
  obtain ⟨W, hW⟩ : ∃ W, W = (w.alloc (.cells #[.slice au us.length cu, .slice ag gs.length cg] 31)).alloc (.cells n.cells 38) := ⟨_, rfl⟩
  have hb0 : Below w.heap.size w W := by rw [hW]; exact ((Below.refl w.heap.size w).alloc (Nat.le_refl _) _).alloc (by simp) _
  have hu : W.heap[w.heap.size]? = some (.cells #[.slice au us.length cu, .slice ag gs.length cg] 31 (0, 0)) := by
    rw [hW, heap_alloc_old _ _ (by simp), heap_alloc_new]
  have hx : W.heap[w.heap.size + 1]? = some (.cells n.cells 38 (0, 0)) := by
    rw [hW]
    have := heap_alloc_new (w.alloc (.cells #[.slice au us.length cu, .slice ag gs.length cg] 31)) (.cells n.cells 38)
    simpa using this
  have hbm := bad_mode mode hm
  have h3z := and3z mode hm
  have h16z := and16z mode hm
  have hmay := hid (fun W h2 h3 => rmay_any (.slice au us.length cu) (.slice ag gs.length cg) us gs who n (needN mode) W h2 h3 hl hn (by have := needN_lt mode; omega))
  have hnd := hid (fun W => rneed_any mode W hm)
  have hdr := hid (rdir_any n W hn)
  have hU := hid (h2.below hb0)
  have hG := hid (h3.below hb0)
  rw [nod_cells] at hx hW hmay hdr ⊢
  have c0 : W.cell? ⟨w.heap.size + 1, 0, none⟩ = some (.int .u64 (n.path : Int)) := block_cell hx 0
  have c1 : W.cell? ⟨w.heap.size + 1, 1, none⟩ = some (.int .u32 (n.vers : Int)) := block_cell hx 1
  have c2 : W.cell? ⟨w.heap.size + 1, 2, none⟩ = some (.int .u32 (n.mode : Int)) := block_cell hx 2
  have c3 : W.cell? ⟨w.heap.size + 1, 3, none⟩ = some (.int .u32 (n.atm : Int)) := block_cell hx 3
  have c4 : W.cell? ⟨w.heap.size + 1, 4, none⟩ = some (.int .u32 (n.mtm : Int)) := block_cell hx 4
  have c5 : W.cell? ⟨w.heap.size + 1, 5, none⟩ = some (.string n.name) := block_cell hx 5
  have c6 : W.cell? ⟨w.heap.size + 1, 6, none⟩ = some (.string n.uid) := block_cell hx 6
  have c7 : W.cell? ⟨w.heap.size + 1, 7, none⟩ = some (.string n.gid) := block_cell hx 7
  have c8 : W.cell? ⟨w.heap.size + 1, 8, none⟩ = some (.string n.muid) := block_cell hx 8
  have c9 : W.cell? ⟨w.heap.size + 1, 9, none⟩ = some (.int .u64 (n.up : Int)) := block_cell hx 9
  have c10 : W.cell? ⟨w.heap.size + 1, 10, none⟩ = some (.bool n.gone) := block_cell hx 10
  have c11 : W.cell? ⟨w.heap.size + 1, 11, none⟩ = some (.string n.data) := block_cell hx 11
  have u0 : W.cell? ⟨w.heap.size, 0, none⟩ = some (.slice au us.length cu) := block_cell hu 0
  have u1 : W.cell? ⟨w.heap.size, 1, none⟩ = some (.slice ag gs.length cg) := block_cell hu 1
  have hx2 := hid hx
  replace hx := hid hx
  replace hu := hid hu
  replace hb0 := hid hb0
  clear h2 h3
  by_cases q1 : mode &&& 172 = 0
  case neg =>
    have hN : Hid (openN us gs who n mode = 1) := hid (by unfold openN; rw [if_neg q1])
    simp only [q1, decide_false, Bool.not_false] at hbm
    clear q1 h3z h16z c0 c1 c2 c3 c4 c5 c6 c7 c8 c9 c10 c11
    go_enter Try.func19, Try.ntmps19
    go_wp2_with (rw [← hW]; replace hW := hid hW)
    go_ret
    exact ⟨by rw [hN.out]; rfl, hb0.out⟩
  have hq2 : Hid ((dirB n && !decide (mode &&& 19 = 0)) = (dirB n && (!decide (mode &&& 3 = 0) || !decide (mode &&& 16 = 0)))) := hid (by rw [and19_iff, Bool.not_and])
  have hO : Hid (openN us gs who n mode = if (dirB n && (!decide (mode &&& 3 = 0) || !decide (mode &&& 16 = 0))) then 12 else if mayS (inB us gs who n.gid) (decide (who = n.uid)) n.mode (needN mode) then 0 else 5) := hid (by unfold openN; rw [if_pos q1, hq2.out])
  simp only [q1, decide_true, Bool.not_true] at hbm
  clear q1 hq2
  generalize decide (mode &&& 3 = 0) = z3 at *
  generalize decide (mode &&& 16 = 0) = z16 at *
  generalize dirB n = dn at *
  generalize mayS (inB us gs who n.gid) (decide (who = n.uid)) n.mode (needN mode) = mb at *
  have hgo : ∀ r : Nat, openN us gs who n mode = r → Hid (openN us gs who n mode = r) := fun r h => hid h
  replace hgo := hid hgo
  go_enter Try.func19, Try.ntmps19
  go_wp2_with (rw [← hW]; replace hW := hid hW)
  refine hdr.out.mono ?_
  rintro e w1 ⟨rfl, hb1⟩
  have hu1 := hid ((hb1.block _ (lt_of_block hu.out)).trans hu.out)
  have hx1 := hid ((hb1.block _ (lt_of_block hx.out)).trans hx.out)
  have hB1 := hid (sn hb0.out hb1)
  have hU1 := hid (hU.out.below hb1)
  have hG1 := hid (hG.out.below hb1)
  clear hb1 hdr u0 u1 c0 c1 c2 c3 c4 c5 c6 c7 c8 c9 c10 c11
  cases dn <;> cases z3 <;> cases z16 <;> simp only [Bool.not_true, Bool.not_false] at h3z h16z
  all_goals
    first
    | (have hN := hgo.out 12 (by rw [hO.out]; rfl)
       go_wp2_with fail
       go_ret
       exact ⟨by rw [hN.out]; rfl, hB1.out⟩)
    | skip
  all_goals
    have hN := hgo.out (if mb = true then 0 else 5) (by rw [hO.out]; rfl)
    go_wp2_with fail
    have hU2 : Hid (TxtsAt w1.drew (.slice au us.length cu) us) := hid (hU1.out.below ((Below.refl _ _).drew))
    have hG2 : Hid (GrpsAt w1.drew (.slice ag gs.length cg) gs) := hid (hG1.out.below ((Below.refl _ _).drew))
    have hx3 : Hid (w1.drew.heap[w.heap.size + 1]? = _) := hid hx1.out
    have hu3 : Hid (w1.drew.heap[w.heap.size]? = _) := hid hu1.out
    have hB : Hid (Below w.heap.size w w1.drew) := hid (hB1.out.drew)
    go_region_held3 (fun w' => (w'.cell? ⟨w.heap.size, 0, none⟩ = some (.slice au us.length cu) ∧ w'.cell? ⟨w.heap.size, 1, none⟩ = some (.slice ag gs.length cg)) ∧ w'.cell? ⟨w.heap.size + 1, 0, none⟩ = some (.int .u64 (n.path : Int)) ∧ w'.cell? ⟨w.heap.size + 1, 1, none⟩ = some (.int .u32 (n.vers : Int)) ∧ w'.cell? ⟨w.heap.size + 1, 2, none⟩ = some (.int .u32 (n.mode : Int)) ∧ w'.cell? ⟨w.heap.size + 1, 3, none⟩ = some (.int .u32 (n.atm : Int)) ∧ w'.cell? ⟨w.heap.size + 1, 4, none⟩ = some (.int .u32 (n.mtm : Int)) ∧ w'.cell? ⟨w.heap.size + 1, 5, none⟩ = some (.string n.name) ∧ w'.cell? ⟨w.heap.size + 1, 6, none⟩ = some (.string n.uid) ∧ w'.cell? ⟨w.heap.size + 1, 7, none⟩ = some (.string n.gid) ∧ w'.cell? ⟨w.heap.size + 1, 8, none⟩ = some (.string n.muid) ∧ w'.cell? ⟨w.heap.size + 1, 9, none⟩ = some (.int .u64 (n.up : Int)) ∧ w'.cell? ⟨w.heap.size + 1, 10, none⟩ = some (.bool n.gone) ∧ w'.cell? ⟨w.heap.size + 1, 11, none⟩ = some (.string n.data))
      (first | exact ⟨⟨block_cell hu3.out 0, block_cell hu3.out 1⟩, block_cell hx3.out 0, block_cell hx3.out 1, block_cell hx3.out 2, block_cell hx3.out 3, block_cell hx3.out 4, block_cell hx3.out 5, block_cell hx3.out 6, block_cell hx3.out 7, block_cell hx3.out 8, block_cell hx3.out 9, block_cell hx3.out 10, block_cell hx3.out 11⟩ | go_keep)
      (first | ((go_at_call 44; (with_reducible refine (hnd.out _).mono ?_); rintro e w4 ⟨rfl, hb4⟩; replace hU2 := hid (hU2.out.below hb4); replace hG2 := hid (hG2.out.below hb4); replace hx3 := hid ((hb4.block _ (lt_of_block hx3.out)).trans hx3.out); replace hu3 := hid ((hb4.block _ (lt_of_block hu3.out)).trans hu3.out); replace hB := hid (sn hB.out hb4))) | ((go_at_call 17; (with_reducible refine (hmay.out _ hU2.out hG2.out).mono ?_); rintro e w5 ⟨rfl, hb5⟩; replace hx3 := hid ((hb5.block _ (lt_of_block hx3.out)).trans hx3.out); replace hu3 := hid ((hb5.block _ (lt_of_block hu3.out)).trans hu3.out); replace hB := hid (sn hB.out hb5))))
    cases mb with
    | true =>
      go_wp2_with fail
      go_ret
      exact ⟨by rw [hN.out]; rfl, hB.out⟩
    | false =>
      go_wp2_with fail
      go_ret
      exact ⟨by rw [hN.out]; rfl, hB.out⟩
end Go.Proofs.Ytonhliipbdniiaa
