/- A node; who may what, in the program and in the reference. Conditions: numbers in their types. -/
import Derived.Test.YtonhliipbdniiaaUs10
import Derived.Test.YtonhliipbdniiaaPm0
namespace Go.Proofs.Ytonhliipbdniiaa
open Go.RowKit
set_option maxRecDepth 100000
set_option linter.unusedVariables false

/-- A file of a tree. -/
structure Nod where
  path : Nat
  vers : Nat
  mode : Nat
  atm : Nat
  mtm : Nat
  name : ByteArray
  uid : ByteArray
  gid : ByteArray
  muid : ByteArray
  up : Nat
  gone : Bool
  data : ByteArray
def Nod.cells (n : Nod) : Array Value := #[.int .u64 (n.path : Int), .int .u32 (n.vers : Int), .int .u32 (n.mode : Int), .int .u32 (n.atm : Int), .int .u32 (n.mtm : Int), .string n.name, .string n.uid, .string n.gid, .string n.muid, .int .u64 (n.up : Int), .bool n.gone, .string n.data]
structure NodOk (n : Nod) : Prop where
  path : n.path < 18446744073709551616
  vers : n.vers < 4294967296
  mode : n.mode < 4294967296
  atm : n.atm < 4294967296
  mtm : n.mtm < 4294967296
  name : n.name.size ≤ maxLen
  uid : n.uid.size ≤ maxLen
  gid : n.gid.size ≤ maxLen
  muid : n.muid.size ≤ maxLen
  up : n.up < 18446744073709551616
  data : n.data.size ≤ maxLen
theorem nod_cells (n : Nod) : n.cells = #[.int .u64 (n.path : Int), .int .u32 (n.vers : Int), .int .u32 (n.mode : Int), .int .u32 (n.atm : Int), .int .u32 (n.mtm : Int), .string n.name, .string n.uid, .string n.gid, .string n.muid, .int .u64 (n.up : Int), .bool n.gone, .string n.data] := rfl

set_option maxHeartbeats 1600000 in
theorem pmay_any (p : Nat) (us : List ByteArray) (gs : List Grp) (who : ByteArray) (n : Nod) (want : Nat) (w : World) (h : TabAt w p us gs) (hl : UB us gs) (hn : NodOk n) (hw : want < 4294967296) :
    Calls Try.prog 16 #[.pointer (some ⟨p, 0, none⟩), .string who, .agg n.cells, .int .u32 (want : Int)] w fun e w' => e = .returned (.bool (mayS (inB us gs who n.gid) (decide (who = n.uid)) n.mode want)) ∧ Below w.heap.size w w' := by
  obtain ⟨W, hW⟩ : ∃ W, W = w.alloc (.cells n.cells 27) := ⟨_, rfl⟩
  have hb0 : Below w.heap.size w W := by rw [hW]; exact (Below.refl w.heap.size w).alloc (Nat.le_refl _) _
  have hx : W.heap[w.heap.size]? = some (.cells n.cells 27 (0, 0)) := by rw [hW, heap_alloc_new]
  have hin := hid (in_any p us gs who n.gid W (h.below hb0) hl)
  have hm := hn.mode
  rw [nod_cells] at hx hW ⊢
  have c2 : W.cell? ⟨w.heap.size, 2, none⟩ = some (.int .u32 (n.mode : Int)) := block_cell hx 2
  have c6 : W.cell? ⟨w.heap.size, 6, none⟩ = some (.string n.uid) := block_cell hx 6
  have c7 : W.cell? ⟨w.heap.size, 7, none⟩ = some (.string n.gid) := block_cell hx 7
  replace hx := hid hx
  replace hb0 := hid hb0
  replace hn := hid hn
  clear h hl
  by_cases ho : who = n.uid
  · have hq : (who.toList == n.uid.toList) = true := by rw [ho]; simp
    have hr : Hid (decide (who = n.uid) = true) := hid (decide_eq_true ho)
    clear ho
    generalize decide (who = n.uid) = od at *
    go_enter Try.func16, Try.ntmps16
    go_wp2_with (rw [← hW]; replace hW := hid hW)
    refine hin.out.mono ?_
    rintro e w1 ⟨rfl, hb1⟩
    have d2 : w1.cell? ⟨w.heap.size, 2, none⟩ = some (.int .u32 (n.mode : Int)) := block_cell ((hb1.block _ (lt_of_block hx.out)).trans hx.out) 2
    have d6 : w1.cell? ⟨w.heap.size, 6, none⟩ = some (.string n.uid) := block_cell ((hb1.block _ (lt_of_block hx.out)).trans hx.out) 6
    have hB := hid (sn hb0.out hb1)
    clear hb1 c2 c6 c7 hin
    cases hi : inB us gs who n.gid with
    | true =>
      replace hi := hid hi
      go_wp2_with fail
      go_ret
      exact ⟨ret_bool (by rw [hr.out, hi.out]; rw [hasP_tt _ hm, may_prog true true _ _ hm hw]), hB.out⟩
    | false =>
      replace hi := hid hi
      go_wp2_with fail
      go_ret
      exact ⟨ret_bool (by rw [hr.out, hi.out]; rw [hasP_ft _ hm, may_prog false true _ _ hm hw]), hB.out⟩
  · have hq : (who.toList == n.uid.toList) = false := by rw [str_beq]; exact decide_eq_false ho
    have hr : Hid (decide (who = n.uid) = false) := hid (decide_eq_false ho)
    clear ho
    generalize decide (who = n.uid) = od at *
    go_enter Try.func16, Try.ntmps16
    go_wp2_with (rw [← hW]; replace hW := hid hW)
    refine hin.out.mono ?_
    rintro e w1 ⟨rfl, hb1⟩
    have d2 : w1.cell? ⟨w.heap.size, 2, none⟩ = some (.int .u32 (n.mode : Int)) := block_cell ((hb1.block _ (lt_of_block hx.out)).trans hx.out) 2
    have d6 : w1.cell? ⟨w.heap.size, 6, none⟩ = some (.string n.uid) := block_cell ((hb1.block _ (lt_of_block hx.out)).trans hx.out) 6
    have hB := hid (sn hb0.out hb1)
    clear hb1 c2 c6 c7 hin
    cases hi : inB us gs who n.gid with
    | true =>
      replace hi := hid hi
      go_wp2_with fail
      go_ret
      exact ⟨ret_bool (by rw [hr.out, hi.out]; rw [hasP_tf _ hm, may_prog true false _ _ hm hw]), hB.out⟩
    | false =>
      replace hi := hid hi
      go_wp2_with fail
      go_ret
      exact ⟨ret_bool (by rw [hr.out, hi.out]; exact may_prog false false _ _ hm hw), hB.out⟩

theorem div_and7 (m k : Nat) (hm : m < 4294967296) (hk : 0 < k) : bits .and .u32 ((m : Int) / (k : Int)) 7 = ((m / k % 8 : Nat) : Int) := by
  rw [show (m : Int) / (k : Int) = ((m / k : Nat) : Int) from rfl, and7_int _ (Nat.lt_of_le_of_lt (Nat.div_le_self _ _) hm)]
theorem hasB_tt (m : Nat) (hm : m < 4294967296) : bits .or .u32 (bits .or .u32 (bits .and .u32 (m : Int) 7) (bits .and .u32 ((m : Int) / 8) 7)) (bits .and .u32 ((m : Int) / 64) 7) = ((hasB true true m : Nat) : Int) := by
  rw [and7_int _ hm, show bits .and .u32 ((m : Int) / 8) 7 = ((m / 8 % 8 : Nat) : Int) from div_and7 m 8 hm (by decide), show bits .and .u32 ((m : Int) / 64) 7 = ((m / 64 % 8 : Nat) : Int) from div_and7 m 64 hm (by decide), u32_or_nat _ _ (by omega) (by omega), u32_or_nat _ _ (or_lt32 (by omega) (by omega)) (by omega)]
  rfl
theorem hasB_tf (m : Nat) (hm : m < 4294967296) : bits .or .u32 (bits .and .u32 (m : Int) 7) (bits .and .u32 ((m : Int) / 8) 7) = ((hasB true false m : Nat) : Int) := by
  rw [and7_int _ hm, show bits .and .u32 ((m : Int) / 8) 7 = ((m / 8 % 8 : Nat) : Int) from div_and7 m 8 hm (by decide), u32_or_nat _ _ (by omega) (by omega)]
  simp [hasB]
theorem hasB_ft (m : Nat) (hm : m < 4294967296) : bits .or .u32 (bits .and .u32 (m : Int) 7) (bits .and .u32 ((m : Int) / 64) 7) = ((hasB false true m : Nat) : Int) := by
  rw [and7_int _ hm, show bits .and .u32 ((m : Int) / 64) 7 = ((m / 64 % 8 : Nat) : Int) from div_and7 m 64 hm (by decide), u32_or_nat _ _ (by omega) (by omega)]
  simp [hasB]
theorem hasB_ff (m : Nat) (hm : m < 4294967296) : bits .and .u32 (m : Int) 7 = ((hasB false false m : Nat) : Int) := by
  rw [and7_int _ hm]
  simp [hasB]

set_option maxHeartbeats 1600000 in
theorem rmay_any (uv gv : Value) (us : List ByteArray) (gs : List Grp) (who : ByteArray) (n : Nod) (want : Nat) (w : World) (h2 : TxtsAt w uv us) (h3 : GrpsAt w gv gs) (hl : UB us gs) (hn : NodOk n) (hw : want < 4294967296) :
    Calls Try.prog 17 #[.agg #[uv, gv], .string who, .agg n.cells, .int .u32 (want : Int)] w fun e w' => e = .returned (.bool (mayS (inB us gs who n.gid) (decide (who = n.uid)) n.mode want)) ∧ Below w.heap.size w w' := by
  obtain ⟨au, cu, rfl, gu1, gu2⟩ := h2.form
  obtain ⟨ag, cg, rfl, gg1, gg2⟩ := h3.form
  obtain ⟨W, hW⟩ : ∃ W, W = (w.alloc (.cells #[.slice au us.length cu, .slice ag gs.length cg] 31)).alloc (.cells n.cells 38) := ⟨_, rfl⟩
  have hb0 : Below w.heap.size w W := by rw [hW]; exact ((Below.refl w.heap.size w).alloc (Nat.le_refl _) _).alloc (by simp) _
  have hu : W.heap[w.heap.size]? = some (.cells #[.slice au us.length cu, .slice ag gs.length cg] 31 (0, 0)) := by
    rw [hW, heap_alloc_old _ _ (by simp), heap_alloc_new]
  have hx : W.heap[w.heap.size + 1]? = some (.cells n.cells 38 (0, 0)) := by
    rw [hW]
    have := heap_alloc_new (w.alloc (.cells #[.slice au us.length cu, .slice ag gs.length cg] 31)) (.cells n.cells 38)
    simpa using this
  have hin := hid (rin_any _ _ us gs who n.gid W (h2.below hb0) (h3.below hb0) hl)
  have hm := hn.mode
  rw [nod_cells] at hx hW ⊢
  have u0 : W.cell? ⟨w.heap.size, 0, none⟩ = some (.slice au us.length cu) := block_cell hu 0
  have u1 : W.cell? ⟨w.heap.size, 1, none⟩ = some (.slice ag gs.length cg) := block_cell hu 1
  have c2 : W.cell? ⟨w.heap.size + 1, 2, none⟩ = some (.int .u32 (n.mode : Int)) := block_cell hx 2
  have c6 : W.cell? ⟨w.heap.size + 1, 6, none⟩ = some (.string n.uid) := block_cell hx 6
  have c7 : W.cell? ⟨w.heap.size + 1, 7, none⟩ = some (.string n.gid) := block_cell hx 7
  replace hx := hid hx
  replace hu := hid hu
  replace hb0 := hid hb0
  replace hn := hid hn
  clear h2 h3 hl
  by_cases ho : who = n.uid
  · have hq : (who.toList == n.uid.toList) = true := by rw [ho]; simp
    have hr : Hid (decide (who = n.uid) = true) := hid (decide_eq_true ho)
    clear ho
    generalize decide (who = n.uid) = od at *
    go_enter Try.func17, Try.ntmps17
    go_wp2_with (rw [← hW]; replace hW := hid hW)
    refine hin.out.mono ?_
    rintro e w1 ⟨rfl, hb1⟩
    have d2 : w1.cell? ⟨w.heap.size + 1, 2, none⟩ = some (.int .u32 (n.mode : Int)) := block_cell ((hb1.block _ (lt_of_block hx.out)).trans hx.out) 2
    have d6 : w1.cell? ⟨w.heap.size + 1, 6, none⟩ = some (.string n.uid) := block_cell ((hb1.block _ (lt_of_block hx.out)).trans hx.out) 6
    have hB := hid (sn hb0.out hb1)
    clear hb1 c2 c6 c7 hin u0 u1
    cases hi : inB us gs who n.gid with
    | true =>
      replace hi := hid hi
      go_wp2_with fail
      go_ret
      exact ⟨ret_bool (by rw [hr.out, hi.out]; rw [hasB_tt _ hm]; exact may_ref true true _ _ hw), hB.out⟩
    | false =>
      replace hi := hid hi
      go_wp2_with fail
      go_ret
      exact ⟨ret_bool (by rw [hr.out, hi.out]; rw [hasB_ft _ hm]; exact may_ref false true _ _ hw), hB.out⟩
  · have hq : (who.toList == n.uid.toList) = false := by rw [str_beq]; exact decide_eq_false ho
    have hr : Hid (decide (who = n.uid) = false) := hid (decide_eq_false ho)
    clear ho
    generalize decide (who = n.uid) = od at *
    go_enter Try.func17, Try.ntmps17
    go_wp2_with (rw [← hW]; replace hW := hid hW)
    refine hin.out.mono ?_
    rintro e w1 ⟨rfl, hb1⟩
    have d2 : w1.cell? ⟨w.heap.size + 1, 2, none⟩ = some (.int .u32 (n.mode : Int)) := block_cell ((hb1.block _ (lt_of_block hx.out)).trans hx.out) 2
    have d6 : w1.cell? ⟨w.heap.size + 1, 6, none⟩ = some (.string n.uid) := block_cell ((hb1.block _ (lt_of_block hx.out)).trans hx.out) 6
    have hB := hid (sn hb0.out hb1)
    clear hb1 c2 c6 c7 hin u0 u1
    cases hi : inB us gs who n.gid with
    | true =>
      replace hi := hid hi
      go_wp2_with fail
      go_ret
      exact ⟨ret_bool (by rw [hr.out, hi.out]; rw [hasB_tf _ hm]; exact may_ref true false _ _ hw), hB.out⟩
    | false =>
      replace hi := hid hi
      go_wp2_with fail
      go_ret
      exact ⟨ret_bool (by rw [hr.out, hi.out]; rw [hasB_ff _ hm]; exact may_ref false false _ _ hw), hB.out⟩
end Go.Proofs.Ytonhliipbdniiaa
