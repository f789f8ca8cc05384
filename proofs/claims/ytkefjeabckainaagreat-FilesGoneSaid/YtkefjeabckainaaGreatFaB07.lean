/- What Few, Of and Table of layer 15 do. Conditions: groups that fit into a slice; for Table: what the document allows. And the texts behind it. -/
import Derived.Test.YtkefjeabckainaaGreatFaB06
import Derived.Deep.AppendLies
import Derived.Test.YtkefjeabckainaaGreatFaB05
import Derived.Test.YtkefjeabckainaaGreatFaB01
import Derived.Deep.RegionHeld3
import Derived.Test.YtkefjeabckainaaGreatFaB04
import Derived.Maps.Own
import Derived.Maps.OwnSet
namespace Go.Proofs.YtkefjeabckainaaGreat
section
open Go.RowKit
set_option maxRecDepth 100000
set_option linter.unusedVariables false
theorem flat_succ {gs : List Grp} {k : Nat} (h : k < gs.length) : (gs.take (k + 1)).flatMap Grp.cells = (gs.take k).flatMap Grp.cells ++ [.string gs[k].name, gs[k].mv] := by
  rw [List.take_succ_eq_append_getElem h, List.flatMap_append]
  simp [Grp.cells]

def TabPost (w : World) (us : List ByteArray) (gs : List Grp) (e : Ending) (w' : World) : Prop :=
  ∃ p gs', e = .returned (.pointer (some ⟨p, 0, none⟩)) ∧ TabAt w' p us gs' ∧ SameG gs gs' ∧ Below w.heap.size w w'

set_option maxHeartbeats 3200000 in
theorem table_any (uv gv : Value) (us : List ByteArray) (gs : List Grp) (w : World) (h2 : TxtsAt w uv us) (h3 : GrpsAt w gv gs) (hok : UOk us gs) (hlm : ∀ g ∈ gs, g.mem.length ≤ 1000) :
    Calls Tryz.prog 31 #[.agg #[uv, gv]] w (TabPost w us gs) := by
  obtain ⟨W, hW⟩ : ∃ W, W = w.alloc (.cells #[uv, gv] 81) := ⟨_, rfl⟩
  have hb0 : Below w.heap.size w W := by rw [hW]; exact (Below.refl w.heap.size w).alloc (Nat.le_refl _) _
  have hx : W.heap[w.heap.size]? = some (.cells #[uv, gv] 81 (0, 0)) := by rw [hW, heap_alloc_new]
  obtain ⟨au, cu, rfl, gu1, gu2⟩ := h2.form
  obtain ⟨ag, cg, rfl, gg1, gg2⟩ := h3.form
  unfold maxLen at gu2 gg2
  have hzW : w.heap.size < W.heap.size := lt_of_block hx
  have hng := hok.ng
  have h2' := hid (h2.below hb0)
  have h3' := hid (h3.below hb0)
  replace hb0 := hid hb0
  replace hx := hid hx
  replace hok := hid hok
  replace hlm := hid hlm
  clear h2 h3
  go_enter Tryz.func31, Tryz.ntmps31
  go_wp2_with (rw [← hW]; replace hW := hid hW)
  try (rw [← hW]; replace hW := hid hW)
  go_loopw [4, 3] (fun kv gvk wr => ∃ k : Nat, k ≤ gs.length ∧ kv = .int .i64 (k : Int) ∧ Hid (wr.ownsRow W.heap.size 154 2 gvk k ((gs.take k).flatMap Grp.cells)) ∧ Hid (Below W.heap.size W wr)) (fun kv _ _ => gs.length - (intOf kv).toNat)
  case atStart => exact ⟨0, by omega, rfl, hid (World.ownsRow_nil _ _ _ _), hid (Below.refl _ _)⟩
  case round =>
    obtain ⟨k, hk1, rfl, hown, hB⟩ := hrel
    have hBw := hid (hb0.out.trans (hB.out.mono (Nat.le_of_lt hzW)))
    have hxr := (hB.out.block _ hzW).trans hx.out
    have d1 : wr.cell? ⟨w.heap.size, 1, none⟩ = some (.slice ag gs.length cg) := block_cell hxr 1
    by_cases hkl : k < gs.length
    · obtain ⟨b1, o1, ha1, hc1, hc2, hm⟩ := GrpsAt.cell (h3'.out.below hB.out) k hkl
      subst ha1
      obtain ⟨am, cm, hmv, gm1, gm2⟩ := hm.form
      have hfl := hid (flat_succ hkl)
      clear hm
      obtain ⟨g, hg1⟩ : ∃ g, g = gs[k] := ⟨_, rfl⟩
      rw [← hg1] at hc1 hc2 hmv gm1 hfl
      replace hg1 := hid hg1
      obtain ⟨nm, mv, mem⟩ := g
      simp only at hc1 hc2 hmv gm1 hfl
      subst hmv
      have i1 : (0 : Int) ≤ (k : Int) := by omega
      have i2 : (k : Int) < (gs.length : Int) := by omega
      have hD := (Below.refl wr.heap.size wr).drew
      have hA := (Below.refl wr.drew.heap.size wr.drew).alloc (Nat.le_refl _) (.cells #[.string nm, .slice am mem.length cm] 154)
      have hownA := hid (own_keep hown.out (fun j hj => (hA.block j (hown.out.lt j hj).2).trans (hD.block j (hown.out.lt j hj).2)))
      have hsrc : Hid (RowAt (wr.drew.alloc (.cells #[.string nm, .slice am mem.length cm] 154)) 2 (.slice (some ⟨wr.drew.heap.size, 0, none⟩) 1 1) 1 [.string nm, .slice am mem.length cm]) := hid (RowAt.of_block (n := 1) (heap_alloc_new _ _) rfl (by unfold maxLen; omega))
      have hsz : W.heap.size ≤ wr.heap.size := hB.out.size
      have hBA := hid (hB.out.drew.trans (hA.mono hB.out.size))
      have hvl := hid hown.out.lt
      obtain ⟨ak, ck, rfl⟩ := own_form hown.out
      have s1 : wr.drew.cell? ⟨w.heap.size, 1, none⟩ = some (.slice (some ⟨b1, o1, none⟩) gs.length cg) := d1
      have s2 : wr.drew.cell? ⟨b1, o1 + k * 2, none⟩ = some (.string nm) := hc1
      have s3 : wr.drew.cell? ⟨b1, o1 + k * 2 + 1, none⟩ = some (.slice am mem.length cm) := hc2
      replace hA := hid hA
      replace hD := hid hD
      replace hxr := hid hxr
      go_wp2_with fail
      go_region_law ((refine step_append_row elemGrp _ rfl (.tmp 14) (.tmp 28) rfl W.heap.size (.slice ak k ck) k _ rfl hownA.out _ 1 [.string nm, .slice am mem.length cm] rfl hsrc.out (by intro u hu; simp at hu; rcases hu with rfl | rfl <;> rfl) (by unfold maxLen; omega) (by omega) (by simp; omega) ?_; intro a' c' w' h2 h3; have hown2 := hid h2; have hB2 := hid (hBA.out.grown h3 (by simp; omega) (fun j hj => by have := (hvl.out j hj).1; omega)); clear h2 h3))
      all_goals
        clear s1 s2 s3 hown hownA hvl hA hD hsrc hBA d1 hc1 hc2 i1 i2
        go_wp2_with fail
        go_roundw
        case rel => exact ⟨k + 1, by omega, by go_num, hid (by rw [hfl.out]; exact hown2.out), hB2⟩
        case measure => simp [intOf]; omega
    · obtain rfl : k = gs.length := by omega
      rw [List.take_length] at hown
      have hnew := hid (unew_any (.slice au us.length cu) u3 us gs wr (h2'.out.below hB.out) ⟨(RowAt.of_own hown.out).weak, fun g hg => (h3'.out.2 g hg).below hB.out⟩ hok.out hlm.out)
      have d0 : wr.cell? ⟨w.heap.size, 0, none⟩ = some (.slice au us.length cu) := block_cell hxr 0
      replace hxr := hid hxr
      clear hown
      go_wp2_with fail
      refine hnew.out.mono ?_
      rintro e w9 ⟨p, gs', rfl, hT, hS, hb9⟩
      have hB9 := hid (sn hBw.out hb9)
      replace hT := hid hT
      replace hS := hid hS
      clear hb9 hnew
      go_wp2_with fail
      go_ret
      exact ⟨p, gs', rfl, hT.out, hS.out, hB9.out⟩
end
end Go.Proofs.YtkefjeabckainaaGreat

namespace Go.Proofs.YtkefjeabckainaaGreat
section
open Go.RowKit
set_option maxRecDepth 100000
set_option linter.unusedVariables false
end
end Go.Proofs.YtkefjeabckainaaGreat

namespace Go.Proofs.YtkefjeabckainaaGreat
section
open Go.RowKit
set_option maxRecDepth 100000
set_option linter.unusedVariables false

set_option maxHeartbeats 1600000 in
theorem pmay_any (p : Nat) (us : List ByteArray) (gs : List Grp) (who : ByteArray) (n : Nod) (want : Nat) (w : World) (h : TabAt w p us gs) (hl : UB us gs) (hn : NodOk n) (hw : want < 4294967296) :
    Calls Tryz.prog 39 #[.pointer (some ⟨p, 0, none⟩), .string who, .agg n.cells, .int .u32 (want : Int)] w fun e w' => e = .returned (.bool (mayS (inB us gs who n.gid) (decide (who = n.uid)) n.mode want)) ∧ Below w.heap.size w w' := by
  obtain ⟨W, hW⟩ : ∃ W, W = w.alloc (.cells n.cells 89) := ⟨_, rfl⟩
  have hb0 : Below w.heap.size w W := by rw [hW]; exact (Below.refl w.heap.size w).alloc (Nat.le_refl _) _
  have hx : W.heap[w.heap.size]? = some (.cells n.cells 89 (0, 0)) := by rw [hW, heap_alloc_new]
  have hin := hid (in_any p us gs who n.gid W (h.below hb0) hl)
  have hm := hn.mode
  rw [nod_cells] at hx hW ⊢
  have c2 : W.cell? ⟨w.heap.size, 2, none⟩ = some (.int .u32 (n.mode : Int)) := block_cell hx 2
  have c6 : W.cell? ⟨w.heap.size, 6, none⟩ = some (.string n.uid) := block_cell hx 6
  have c7 : W.cell? ⟨w.heap.size, 7, none⟩ = some (.string n.gid) := block_cell hx 7
  replace hx := hid hx
  replace hb0 := hid hb0
  replace hn := hid hn
  clear h hl
  by_cases ho : who = n.uid
  · have hq : (who.toList == n.uid.toList) = true := by rw [ho]; simp
    have hr : Hid (decide (who = n.uid) = true) := hid (decide_eq_true ho)
    clear ho
    generalize decide (who = n.uid) = od at *
    go_enter Tryz.func39, Tryz.ntmps39
    go_wp2_with (rw [← hW]; replace hW := hid hW)
    refine hin.out.mono ?_
    rintro e w1 ⟨rfl, hb1⟩
    have d2 : w1.cell? ⟨w.heap.size, 2, none⟩ = some (.int .u32 (n.mode : Int)) := block_cell ((hb1.block _ (lt_of_block hx.out)).trans hx.out) 2
    have d6 : w1.cell? ⟨w.heap.size, 6, none⟩ = some (.string n.uid) := block_cell ((hb1.block _ (lt_of_block hx.out)).trans hx.out) 6
    have hB := hid (sn hb0.out hb1)
    clear hb1 c2 c6 c7 hin
    cases hi : inB us gs who n.gid with
    | true =>
      replace hi := hid hi
      go_wp2_with fail
      go_ret
      exact ⟨ret_bool (by rw [hr.out, hi.out]; rw [hasP_tt _ hm, may_prog true true _ _ hm hw]), hB.out⟩
    | false =>
      replace hi := hid hi
      go_wp2_with fail
      go_ret
      exact ⟨ret_bool (by rw [hr.out, hi.out]; rw [hasP_ft _ hm, may_prog false true _ _ hm hw]), hB.out⟩
  · have hq : (who.toList == n.uid.toList) = false := by rw [str_beq]; exact decide_eq_false ho
    have hr : Hid (decide (who = n.uid) = false) := hid (decide_eq_false ho)
    clear ho
    generalize decide (who = n.uid) = od at *
    go_enter Tryz.func39, Tryz.ntmps39
    go_wp2_with (rw [← hW]; replace hW := hid hW)
    refine hin.out.mono ?_
    rintro e w1 ⟨rfl, hb1⟩
    have d2 : w1.cell? ⟨w.heap.size, 2, none⟩ = some (.int .u32 (n.mode : Int)) := block_cell ((hb1.block _ (lt_of_block hx.out)).trans hx.out) 2
    have d6 : w1.cell? ⟨w.heap.size, 6, none⟩ = some (.string n.uid) := block_cell ((hb1.block _ (lt_of_block hx.out)).trans hx.out) 6
    have hB := hid (sn hb0.out hb1)
    clear hb1 c2 c6 c7 hin
    cases hi : inB us gs who n.gid with
    | true =>
      replace hi := hid hi
      go_wp2_with fail
      go_ret
      exact ⟨ret_bool (by rw [hr.out, hi.out]; rw [hasP_tf _ hm, may_prog true false _ _ hm hw]), hB.out⟩
    | false =>
      replace hi := hid hi
      go_wp2_with fail
      go_ret
      exact ⟨ret_bool (by rw [hr.out, hi.out]; exact may_prog false false _ _ hm hw), hB.out⟩

end
end Go.Proofs.YtkefjeabckainaaGreat

namespace Go.Proofs.YtkefjeabckainaaGreat
section
open Go.RowKit
set_option maxRecDepth 100000
set_option linter.unusedVariables false

def needN (mode : Nat) : Nat := if mode &&& 16 = 0 then [4, 2, 6, 1].getD (mode % 4) 0 else [4, 2, 6, 1].getD (mode % 4) 0 ||| 2
theorem needN_lt (mode : Nat) : needN mode < 8 := by
  unfold needN
  have h : mode % 4 = 0 ∨ mode % 4 = 1 ∨ mode % 4 = 2 ∨ mode % 4 = 3 := by omega
  split <;> rcases h with h | h | h | h <;> rw [h] <;> decide
theorem and3 (mode : Nat) (h : mode < 256) : bits .and .u8 (mode : Int) 3 = ((mode % 4 : Nat) : Int) := by
  rw [show (3 : Int) = ((3 : Nat) : Int) from rfl, u8_and_nat _ _ h (by omega), show mode &&& 3 = mode % 4 from Nat.and_two_pow_sub_one_eq_mod mode 2]
theorem and16 (mode : Nat) (h : mode < 256) : bits .and .u8 (mode : Int) 16 = ((mode &&& 16 : Nat) : Int) := by
  rw [show (16 : Int) = ((16 : Nat) : Int) from rfl, u8_and_nat _ _ h (by omega)]

set_option maxHeartbeats 1600000 in
theorem needs_any (mode : Nat) (w : World) (hm : mode < 256) :
    Calls Tryz.prog 111 #[.int .u8 (mode : Int)] w fun e w' => e = .returned (.int .u32 (needN mode : Int)) ∧ Below w.heap.size w w' := by
  have h3 := and3 mode hm
  have h16 := and16 mode hm
  have hcs : mode % 4 = 0 ∨ mode % 4 = 1 ∨ mode % 4 = 2 ∨ mode % 4 = 3 := by omega
  have hb : Hid (Below w.heap.size w (w.alloc (.cells #[.int .u32 4, .int .u32 2, .int .u32 6, .int .u32 1] 32))) := hid ((Below.refl _ _).alloc (Nat.le_refl _) _)
  by_cases h0 : mode &&& 16 = 0
  · rw [h0] at h16
    have hN : Hid (needN mode = [4, 2, 6, 1].getD (mode % 4) 0) := hid (by unfold needN; rw [if_pos h0])
    clear h0
    rcases hcs with h | h | h | h <;>
    · rw [h] at h3 hN
      clear h
      go_enter Tryz.func111, Tryz.ntmps111
      go_wp2_with fail
      go_ret
      exact ⟨by rw [hN.out]; rfl, hb.out⟩
  · have hN : Hid (needN mode = [4, 2, 6, 1].getD (mode % 4) 0 ||| 2) := hid (by unfold needN; rw [if_neg h0])
    have hz : (((mode &&& 16 : Nat) : Int) != 0) = true := by simpa using h0
    rw [← h16] at hz
    clear h0 h16
    rcases hcs with h | h | h | h <;>
    · rw [h] at h3 hN
      clear h
      go_enter Tryz.func111, Tryz.ntmps111
      go_wp2_with fail
      go_ret
      exact ⟨by rw [hN.out]; rfl, hb.out⟩

def openN (us : List ByteArray) (gs : List Grp) (who : ByteArray) (n : Nod) (mode : Nat) : Nat :=
  if mode &&& 172 = 0 then (if dirB n && !decide (mode &&& 19 = 0) then 12 else if mayS (inB us gs who n.gid) (decide (who = n.uid)) n.mode (needN mode) then 0 else 5) else 1
theorem bad_mode (mode : Nat) (h : mode < 256) : (bits .andNot .u8 (mode : Int) 83 != 0) = !decide (mode &&& 172 = 0) := by
  rw [show (83 : Int) = ((83 : Nat) : Int) from rfl, u8_andNot_nat _ _ h (by omega)]
  show (((mode &&& 172 : Nat) : Int) != 0) = _
  by_cases h0 : mode &&& 172 = 0
  · simp [h0]
  · simp [h0]
theorem and19 (mode : Nat) (h : mode < 256) : (bits .and .u8 (mode : Int) 19 != 0) = !decide (mode &&& 19 = 0) := by
  rw [show (19 : Int) = ((19 : Nat) : Int) from rfl, u8_and_nat _ _ h (by omega)]
  by_cases h0 : mode &&& 19 = 0
  · simp [h0]
  · simp [h0]
set_option maxHeartbeats 3200000 in
theorem popen_any (p : Nat) (us : List ByteArray) (gs : List Grp) (who : ByteArray) (n : Nod) (mode : Nat) (w : World) (h : TabAt w p us gs) (hl : UB us gs) (hn : NodOk n) (hm : mode < 256) :
    Calls Tryz.prog 59 #[.pointer (some ⟨p, 0, none⟩), .string who, .agg n.cells, .int .u8 (mode : Int)] w fun e w' => e = .returned (.int .i64 (openN us gs who n mode : Int)) ∧ Below w.heap.size w w' := by
  obtain ⟨W, hW⟩ : ∃ W, W = w.alloc (.cells n.cells 89) := ⟨_, rfl⟩
  have hb0 : Below w.heap.size w W := by rw [hW]; exact (Below.refl w.heap.size w).alloc (Nat.le_refl _) _
  have hx : W.heap[w.heap.size]? = some (.cells n.cells 89 (0, 0)) := by rw [hW, heap_alloc_new]
  have hbm := bad_mode mode hm
  have hdm := dir_mode n.mode hn.mode
  have h19 := and19 mode hm
  have hmay := hid (fun W hT => pmay_any p us gs who n (needN mode) W hT hl hn (by have := needN_lt mode; omega))
  have hnd := hid (fun W => needs_any mode W hm)
  have hT := hid (h.below hb0)
  rw [nod_cells] at hx hW hmay ⊢
  have c2 : W.cell? ⟨w.heap.size, 2, none⟩ = some (.int .u32 (n.mode : Int)) := block_cell hx 2
  have hx2 := hid hx
  replace hx := hid hx
  replace hb0 := hid hb0
  clear h
  by_cases q1 : mode &&& 172 = 0
  case neg =>
    have hN : Hid (openN us gs who n mode = 1) := hid (by unfold openN; rw [if_neg q1])
    simp only [q1, decide_false, Bool.not_false] at hbm
    clear q1 hdm h19
    go_enter Tryz.func59, Tryz.ntmps59
    go_wp2_with (rw [← hW]; replace hW := hid hW)
    go_ret
    exact ⟨by rw [hN.out]; rfl, hb0.out⟩
  by_cases q2 : (dirB n && !decide (mode &&& 19 = 0)) = true
  · have hN : Hid (openN us gs who n mode = 12) := hid (by unfold openN; rw [if_pos q1, if_pos q2])
    simp only [q1, decide_true, Bool.not_true] at hbm
    unfold dirB at q2
    rw [Bool.and_eq_true] at q2
    rw [q2.1] at hdm
    rw [q2.2] at h19
    clear q1 q2
    go_enter Tryz.func59, Tryz.ntmps59
    go_wp2_with (rw [← hW]; replace hW := hid hW)
    go_ret
    exact ⟨by rw [hN.out]; rfl, hb0.out⟩
  have hN : Hid (openN us gs who n mode = if mayS (inB us gs who n.gid) (decide (who = n.uid)) n.mode (needN mode) then 0 else 5) := hid (by unfold openN; rw [if_pos q1, if_neg q2])
  simp only [q1, decide_true, Bool.not_true] at hbm
  have hcs : dirB n = false ∨ (dirB n = true ∧ (!decide (mode &&& 19 = 0)) = false) := by
    cases hd : dirB n
    · exact .inl rfl
    · rw [hd, Bool.true_and, Bool.not_eq_true] at q2
      exact .inr ⟨rfl, q2⟩
  clear q1 q2
  unfold dirB at hcs
  generalize mayS (inB us gs who n.gid) (decide (who = n.uid)) n.mode (needN mode) = mb at *
  rcases hcs with hd | ⟨hd, hd2⟩ <;> (rw [hd] at hdm; try rw [hd2] at h19)
  all_goals
    go_enter Tryz.func59, Tryz.ntmps59
    go_wp2_with (rw [← hW]; replace hW := hid hW)
    have hT2 : Hid (TabAt W.drew p us gs) := hid (hT.out.below ((Below.refl _ _).drew))
    have hx3 : Hid (W.drew.heap[w.heap.size]? = _) := hid hx.out
    have hB : Hid (Below w.heap.size w W.drew) := hid (hb0.out.drew)
    clear c2
    go_region_held3 (fun w' => w'.cell? ⟨w.heap.size, 0, none⟩ = some (.int .u64 (n.path : Int)) ∧ w'.cell? ⟨w.heap.size, 1, none⟩ = some (.int .u32 (n.vers : Int)) ∧ w'.cell? ⟨w.heap.size, 2, none⟩ = some (.int .u32 (n.mode : Int)) ∧ w'.cell? ⟨w.heap.size, 3, none⟩ = some (.int .u32 (n.atm : Int)) ∧ w'.cell? ⟨w.heap.size, 4, none⟩ = some (.int .u32 (n.mtm : Int)) ∧ w'.cell? ⟨w.heap.size, 5, none⟩ = some (.string n.name) ∧ w'.cell? ⟨w.heap.size, 6, none⟩ = some (.string n.uid) ∧ w'.cell? ⟨w.heap.size, 7, none⟩ = some (.string n.gid) ∧ w'.cell? ⟨w.heap.size, 8, none⟩ = some (.string n.muid) ∧ w'.cell? ⟨w.heap.size, 9, none⟩ = some (.int .u64 (n.up : Int)) ∧ w'.cell? ⟨w.heap.size, 10, none⟩ = some (.bool n.gone) ∧ w'.cell? ⟨w.heap.size, 11, none⟩ = some (.string n.data))
      (first | exact ⟨block_cell hx3.out 0, block_cell hx3.out 1, block_cell hx3.out 2, block_cell hx3.out 3, block_cell hx3.out 4, block_cell hx3.out 5, block_cell hx3.out 6, block_cell hx3.out 7, block_cell hx3.out 8, block_cell hx3.out 9, block_cell hx3.out 10, block_cell hx3.out 11⟩ | go_keep)
      (first | ((go_at_call 111; (with_reducible refine (hnd.out _).mono ?_); rintro e w1 ⟨rfl, hb1⟩; replace hT2 := hid (hT2.out.below hb1); replace hx3 := hid ((hb1.block _ (lt_of_block hx3.out)).trans hx3.out); replace hB := hid (sn hB.out hb1))) | ((go_at_call 39; (with_reducible refine (hmay.out _ hT2.out).mono ?_); rintro e w2 ⟨rfl, hb2⟩; replace hT2 := hid (hT2.out.below hb2); replace hx3 := hid ((hb2.block _ (lt_of_block hx3.out)).trans hx3.out); replace hB := hid (sn hB.out hb2))))
    cases mb with
    | true =>
      go_wp2_with fail
      go_ret
      exact ⟨by rw [hN.out]; rfl, hB.out⟩
    | false =>
      go_wp2_with fail
      go_ret
      exact ⟨by rw [hN.out]; rfl, hB.out⟩
end
end Go.Proofs.YtkefjeabckainaaGreat

namespace Go.Proofs.YtkefjeabckainaaGreat
section
set_option maxRecDepth 100000
set_option linter.unusedVariables false

structure FsV where
  t : Tr
  now : Nat
  by_ : Nat → Nat × Nat
def upd (F : Nat → Nat × Nat) (p : Nat) (x : Nat × Nat) : Nat → Nat × Nat := fun q => if q = p then x else F q
theorem upd_same (F : Nat → Nat × Nat) (p : Nat) : upd F p (F p) = F := by
  funext q; unfold upd; split
  · rename_i h; rw [h]
  · rfl
theorem upd_at (F : Nat → Nat × Nat) (p : Nat) (x : Nat × Nat) : upd F p x p = x := by unfold upd; rw [if_pos rfl]
structure Usr where
  us : List ByteArray
  gs : List Grp
def Usr.may (u : Usr) (who : ByteArray) (n : Nod) (want : Nat) : Bool := mayS (inB u.us u.gs who n.gid) (decide (who = n.uid)) n.mode want
def excB (n : Nod) : Bool := !decide (n.mode &&& 536870912 = 0)
def reapF (f : FsV) (p : Nat) : FsV := if 0 < (f.by_ p).1 then f else if (reapT f.t p).2 then ⟨(reapT f.t p).1, f.now, upd f.by_ p (0, 0)⟩ else f
def holdF (f : FsV) (p : Nat) : FsV × Bool := if (getL f.t.n p).isSome then (⟨f.t, f.now, upd f.by_ p ((f.by_ p).1 + 1, (f.by_ p).2)⟩, true) else (f, false)
def letF (f : FsV) (p : Nat) : FsV := reapF ⟨f.t, f.now, upd f.by_ p ((f.by_ p).1 - 1, (f.by_ p).2)⟩ p
def openedF (f : FsV) (p : Nat) : FsV := ⟨f.t, f.now, upd f.by_ p ((f.by_ p).1, (f.by_ p).2 + 1)⟩
def FsV.set (f : FsV) (t : Tr) : FsV := ⟨t, f.now, f.by_⟩
def aboveF (u : Usr) (f : FsV) (who : ByteArray) (n : Nod) : Bool := decide (n.path ≠ 1) && match getL f.t.n n.up with | some d => u.may who d 2 | none => false
def stepF (u : Usr) (f : FsV) (who : ByteArray) (p : Nat) (name : ByteArray) : Nat × Nat :=
  match getL f.t.n p with
  | none => (0, 6)
  | some d => if dirB d = false then (0, 13) else if u.may who d 1 = false then (0, 5)
    else if name = ⟨#[46, 46]⟩ then (if d.gone then (p, 0) else (d.up, 0))
    else match findL f.t.n p name with | none => (0, 6) | some n => (n.path, 0)
def openF (u : Usr) (f : FsV) (who : ByteArray) (p mode : Nat) : FsV × Nat :=
  match getL f.t.n p with
  | none => (f, 6)
  | some n => if openN u.us u.gs who n mode ≠ 0 then (f, openN u.us u.gs who n mode)
    else if (mode &&& 64 ≠ 0 ∧ n.gone = false ∧ aboveF u f who n = false) then (f, 5)
    else if excB n = true ∧ 0 < (f.by_ p).2 then (f, 20)
    else if mode &&& 16 ≠ 0 ∧ appB n = false then (if (cutT f.t p 0 who f.now).2 ≠ 0 then (f, (cutT f.t p 0 who f.now).2) else (openedF (f.set (cutT f.t p 0 who f.now).1) p, 0))
    else (openedF f p, 0)
def bornN (d m : Nat) : Nat := if m &&& 2147483648 ≠ 0 then 2147483648 ||| (m &&& d &&& 511) else (m &&& 1610612736) ||| (m &&& 73) ||| (m &&& d &&& 438)
def createF (u : Usr) (f : FsV) (who : ByteArray) (p : Nat) (name : ByteArray) (mode open_ : Nat) : FsV × Nat × Nat :=
  match getL f.t.n p with
  | none => (f, 0, 6)
  | some d => if d.gone then (f, 0, 6) else if dirB d = false then (f, 0, 13) else if u.may who d 2 = false then (f, 0, 5)
    else if bitsB mode = false ∨ open_ &&& 172 ≠ 0 then (f, 0, 1)
    else if mode &&& 2147483648 ≠ 0 ∧ open_ &&& 191 ≠ 0 then (f, 0, 12)
    else if (makeT f.t p name (bornN d.mode mode) who d.gid f.now).2.2 ≠ 0 then (f, 0, (makeT f.t p name (bornN d.mode mode) who d.gid f.now).2.2)
    else (openedF (f.set (makeT f.t p name (bornN d.mode mode) who d.gid f.now).1) (makeT f.t p name (bornN d.mode mode) who d.gid f.now).2.1, (makeT f.t p name (bornN d.mode mode) who d.gid f.now).2.1, 0)
def closeF (f : FsV) (p mode : Nat) : FsV :=
  let g : FsV := ⟨f.t, f.now, upd f.by_ p ((f.by_ p).1, (f.by_ p).2 - 1)⟩
  match getL f.t.n p with
  | none => g
  | some n => if mode &&& 64 = 0 then g else if (unlinkT f.t p n.uid f.now).2 ≠ 0 then g else reapF (g.set (unlinkT f.t p n.uid f.now).1) p
def readF (f : FsV) (p off k : Nat) : FsV × ByteArray × Nat := if (takeT f.t p off k f.now).2.2 ≠ 0 then (f, (takeT f.t p off k f.now).2.1, (takeT f.t p off k f.now).2.2) else (f.set (takeT f.t p off k f.now).1, (takeT f.t p off k f.now).2.1, 0)
def writeF (f : FsV) (who : ByteArray) (p off : Nat) (data : ByteArray) : FsV × Nat × Nat := if (putT f.t p off data who f.now).2 ≠ 0 then (f, 0, (putT f.t p off data who f.now).2) else (f.set (putT f.t p off data who f.now).1, data.size, 0)
def removeF (u : Usr) (f : FsV) (who : ByteArray) (p : Nat) : FsV × Nat :=
  match getL f.t.n p with
  | none => (f, 6)
  | some n => if n.gone then (f, 6) else if aboveF u f who n = false then (f, 5) else if (unlinkT f.t p who f.now).2 ≠ 0 then (f, (unlinkT f.t p who f.now).2) else (reapF (f.set (unlinkT f.t p who f.now).1) p, 0)
end
end Go.Proofs.YtkefjeabckainaaGreat

namespace Go.Proofs.YtkefjeabckainaaGreat
section
open Go.RowKit Go.Maps
set_option maxRecDepth 100000
set_option linter.unusedVariables false

def useR : Value → Option (DataW Unit × List MemPlace)
  | .agg cs => match cs.toList with
    | [.int .i64 a, .int .i64 b] => some (.agg [.lit (.int .i64 a), .lit (.int .i64 b)], [])
    | _ => none
  | _ => none
theorem useR_mk (a b : Int) : useR (.agg #[.int .i64 a, .int .i64 b]) = some (.agg [.lit (.int .i64 a), .lit (.int .i64 b)], []) := rfl
def useD (x : Nat × Nat) : DataW Unit := .agg [.lit (.int .i64 (x.1 : Int)), .lit (.int .i64 (x.2 : Int))]
theorem useR_inv {v : Value} {x : Nat × Nat} {ps : List MemPlace} (h : useR v = some (useD x, ps)) : v = .agg #[.int .i64 (x.1 : Int), .int .i64 (x.2 : Int)] := by
  unfold useR at h
  cases v with
  | agg cs =>
    simp only at h
    split at h
    · rename_i a b hc
      cases h
      congr 1
      exact Array.toList_inj.1 hc
    · cases h
  | _ => cases h
def keyL (p : Nat) : Lit := .int .u64 (p : Int)
theorem keyL_lit (p : Nat) : WideAt.IsKeyLit (keyL p) := trivial
theorem keyL_ne {p q : Nat} (h : p ≠ q) : keyL p ≠ keyL q := by unfold keyL; intro e; injection e with _ e; omega
structure MapAt (w : World) (m n : Nat) (F : Nat → Nat × Nat) : Prop where
  own : ∃ D, w.ownsMap Tryz.prog 27 useR m n D ∧ ∀ k, D.atKey (keyL k) (useD (0, 0)) = useD (F k)
  le : ∀ k, (F k).1 ≤ n ∧ (F k).2 ≤ n
theorem keyed64 : Keyed Tryz.prog 27 := int_keyed Tryz.underlying27
theorem key64 (p : Nat) (hp : p < 18446744073709551616) : keyOf Tryz.prog 27 (.int .u64 (p : Int)) = some (keyL p) := keyOf_int_mk Tryz.underlying27 (by
  simp [Lit.wf, IntKind.min, IntKind.max, IntKind.bits, IntKind.signed]; omega)
theorem zero_use (w : World) : (zeroValue 107).run Tryz.prog w = .ok (.agg #[.int .i64 0, .int .i64 0]) w := by kernel_rfl
theorem MapAt.look {w : World} {m n : Nat} {F : Nat → Nat × Nat} (h : MapAt w m n F) (p : Nat) (hp : p < 18446744073709551616) :
    (Instr.lookup 91 (.map (some m)) (.int .u64 (p : Int)) false).run Tryz.prog w = .ok (.agg #[.int .i64 ((F p).1 : Int), .int .i64 ((F p).2 : Int)]) w := by
  obtain ⟨D, hD, hat⟩ := h.own
  obtain ⟨v, ps, hrun, hv⟩ := hD.lookup keyed64 Tryz.underlying91 (zero_use w) (zd := useD (0, 0)) (zp := []) (useR_mk 0 0) (key64 p hp)
  rw [hat p] at hv
  rw [hrun, useR_inv hv]
theorem MapAt.look_ok {w : World} {m n : Nat} {F : Nat → Nat × Nat} (h : MapAt w m n F) (p : Nat) (hp : p < 18446744073709551616) :
    ∃ ok : Bool, (Instr.lookup 91 (.map (some m)) (.int .u64 (p : Int)) true).run Tryz.prog w = .ok (.tuple #[.agg #[.int .i64 ((F p).1 : Int), .int .i64 ((F p).2 : Int)], .bool ok]) w ∧ (ok = false → F p = (0, 0)) := by
  obtain ⟨D, hD, hat⟩ := h.own
  obtain ⟨v, ps, hrun, hv⟩ := hD.look_ok keyed64 Tryz.underlying91 (zero_use w) (zd := useD (0, 0)) (zp := []) (useR_mk 0 0) (key64 p hp)
  rw [hat p] at hv
  refine ⟨Maps.has D (keyL p), by rw [hrun, useR_inv hv], fun hno => ?_⟩
  have h0 := hat p
  have h1 : D.atKey (keyL p) (useD (0, 0)) = useD (0, 0) := Maps.atKey_of_not_has hno _
  rw [h1] at h0
  unfold useD at h0
  simp at h0
  ext <;> simp <;> omega
theorem MapAt.put {w : World} {m n : Nat} {F : Nat → Nat × Nat} (h : MapAt w m n F) (p : Nat) (hp : p < 18446744073709551616) (hn : n < 1000000) (x : Nat × Nat) (hx : x.1 ≤ n + 1 ∧ x.2 ≤ n + 1) :
    ∃ w', (Instr.mapUpdate 91 (.map (some m)) (.int .u64 (p : Int)) (.agg #[.int .i64 (x.1 : Int), .int .i64 (x.2 : Int)])).run Tryz.prog w = .ok () w' ∧ MapAt w' m (n + 1) (upd F p x) ∧ w.mapTurned w' m := by
  obtain ⟨D, hD, hat⟩ := h.own
  obtain ⟨w', hrun, h1, h2⟩ := hD.store keyed64 Tryz.underlying91 (by unfold maxLen; omega) (key64 p hp) (useR_mk (x.1 : Int) (x.2 : Int))
  refine ⟨w', hrun, ⟨⟨_, h1, fun k => ?_⟩, fun k => ?_⟩, h2⟩
  · by_cases e : k = p
    · subst e; rw [atKey_put_same hD.isMap (keyL_lit k), upd_at]; rfl
    · rw [atKey_put_other (keyL_ne e), hat k]; unfold upd; rw [if_neg e]
  · have := h.le k
    unfold upd; split
    · exact hx
    · omega
theorem MapAt.del {w : World} {m n : Nat} {F : Nat → Nat × Nat} (h : MapAt w m n F) (p : Nat) (hp : p < 18446744073709551616) (ty : TypeId) :
    ∃ w', (Builtin.delete_ #[91, 27] ty #[.map (some m), .int .u64 (p : Int)]).run Tryz.prog w = .ok (.tuple #[]) w' ∧ MapAt w' m n (upd F p (0, 0)) ∧ w.mapTurned w' m := by
  obtain ⟨D, hD, hat⟩ := h.own
  obtain ⟨w', hrun, h1, h2⟩ := hD.drop keyed64 Tryz.underlying91 (key64 p hp) ty
  refine ⟨w', hrun, ⟨⟨_, h1, fun k => ?_⟩, fun k => ?_⟩, h2⟩
  · by_cases e : k = p
    · subst e; rw [atKey_del_same, upd_at]
    · rw [atKey_del_other (keyL_ne e), hat k]; unfold upd; rw [if_neg e]
  · have := h.le k
    unfold upd; split
    · exact ⟨Nat.zero_le _, Nat.zero_le _⟩
    · exact this
theorem MapAt.mono {w : World} {m n n' : Nat} {F : Nat → Nat × Nat} (h : MapAt w m n F) (hn : n ≤ n') : MapAt w m n' F := by
  obtain ⟨D, hD, hat⟩ := h.own
  exact ⟨⟨D, hD.mono hn, hat⟩, fun k => by have := h.le k; omega⟩
theorem MapAt.lt {w : World} {m n : Nat} {F : Nat → Nat × Nat} (h : MapAt w m n F) : m < w.heap.size := by
  obtain ⟨D, hD, _⟩ := h.own
  exact hD.lt
theorem MapAt.kept {w w' : World} {m n : Nat} {F : Nat → Nat × Nat} (h : MapAt w m n F) (hk : w'.heap[m]? = w.heap[m]?) : MapAt w' m n F := by
  obtain ⟨D, ⟨es, clock, hb, F', hs, hD⟩, hat⟩ := h.own
  exact ⟨⟨D, ⟨es, clock, hk.trans hb, F', hs, hD⟩, hat⟩, h.le⟩
theorem MapAt.made (w : World) : MapAt (w.alloc (.map #[] 0)) w.heap.size 0 (fun _ => (0, 0)) :=
  ⟨⟨_, World.ownsMap_made w _ _ _, fun k => rfl⟩, fun k => ⟨Nat.le_refl _, Nat.le_refl _⟩⟩
end
end Go.Proofs.YtkefjeabckainaaGreat
