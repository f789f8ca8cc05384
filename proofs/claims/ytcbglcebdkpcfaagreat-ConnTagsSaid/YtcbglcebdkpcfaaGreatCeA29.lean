/- The long test of msg.Same: whether all fields are the same. No condition. -/
import Derived.Test.YtcbglcebdkpcfaaGreatCeA28
namespace Go.Proofs.YtcbglcebdkpcfaaGreat
open Go.RowKit
set_option maxRecDepth 100000
set_option linter.unusedVariables false

noncomputable def ops_same2 : Array Oper := match Tryz.f13.body with | some c => (allOps c).getD 2 #[] | none => #[]
noncomputable def l_same2 : List Oper := ops_same2.toList
theorem len_same2 : l_same2.length = 153 := by kernel_rfl
theorem drop_seven {α : Type} (l : List α) (n : Nat) (h : n + 7 ≤ l.length) : l.drop n = l[n] :: l[n + 1] :: l[n + 2] :: l[n + 3] :: l[n + 4] :: l[n + 5] :: l[n + 6] :: l.drop (n + 7) := by
  rw [List.drop_eq_getElem_cons (by omega : n < l.length), List.drop_eq_getElem_cons (by omega : n + 1 < l.length), List.drop_eq_getElem_cons (by omega : n + 1 + 1 < l.length), List.drop_eq_getElem_cons (by omega : n + 1 + 1 + 1 < l.length), List.drop_eq_getElem_cons (by omega : n + 1 + 1 + 1 + 1 < l.length), List.drop_eq_getElem_cons (by omega : n + 1 + 1 + 1 + 1 + 1 < l.length), List.drop_eq_getElem_cons (by omega : n + 1 + 1 + 1 + 1 + 1 + 1 < l.length)]
structure SW (w0 w : World) (k5 k6 : Nat) (x y : MV) : Prop where
  below : Below w0.heap.size w0 w
  bx : w.heap[k5]? = some (.cells x.cells 41 (0, 0))
  bw : w.heap[k6]? = some (.cells y.cells 41 (0, 0))
theorem SW.next {w0 w w' : World} {k5 k6 : Nat} {x y : MV} (h : SW w0 w k5 k6 x y) (hb : Below w.heap.size w w') : SW w0 w' k5 k6 x y :=
  ⟨h.below.trans (hb.mono h.below.size), (hb.block k5 (lt_of_block h.bx)).trans h.bx, (hb.block k6 (lt_of_block h.bw)).trans h.bw⟩
theorem beq_str (s t : ByteArray) (W : World) : (binOp .eql 9 (.string s) (.string t)).run Tryz.prog W = .ok (.bool (decide (s = t))) W := by
  by_cases h : s = t
  · subst h; simp [go_sem]
  · have hq := beq_toList h
    simp [go_sem, hq, h]

theorem beq_u8 (s t : Nat) (W : World) : (binOp .eql 5 (.int .u8 (s : Int)) (.int .u8 (t : Int))).run Tryz.prog W = .ok (.bool (decide (s = t))) W := by
  by_cases h : s = t
  · subst h; simp [go_sem]
  · have h2 : ¬ ((s : Int) = (t : Int)) := by omega
    simp [go_sem, h, h2]
theorem beq_u16 (s t : Nat) (W : World) : (binOp .eql 31 (.int .u16 (s : Int)) (.int .u16 (t : Int))).run Tryz.prog W = .ok (.bool (decide (s = t))) W := by
  by_cases h : s = t
  · subst h; simp [go_sem]
  · have h2 : ¬ ((s : Int) = (t : Int)) := by omega
    simp [go_sem, h, h2]
theorem beq_u32 (s t : Nat) (W : World) : (binOp .eql 32 (.int .u32 (s : Int)) (.int .u32 (t : Int))).run Tryz.prog W = .ok (.bool (decide (s = t))) W := by
  by_cases h : s = t
  · subst h; simp [go_sem]
  · have h2 : ¬ ((s : Int) = (t : Int)) := by omega
    simp [go_sem, h, h2]
theorem beq_u64 (s t : Nat) (W : World) : (binOp .eql 35 (.int .u64 (s : Int)) (.int .u64 (t : Int))).run Tryz.prog W = .ok (.bool (decide (s = t))) W := by
  by_cases h : s = t
  · subst h; simp [go_sem]
  · have h2 : ¬ ((s : Int) = (t : Int)) := by omega
    simp [go_sem, h, h2]
noncomputable def eqF21 (x y : M) : Bool := eqS x.stat y.stat
noncomputable def eqF20 (x y : M) : Bool := decide (x.data = y.data) && eqF21 x y
noncomputable def eqF19 (x y : M) : Bool := decide (x.count = y.count) && eqF20 x y
noncomputable def eqF18 (x y : M) : Bool := decide (x.offset = y.offset) && eqF19 x y
noncomputable def eqF17 (x y : M) : Bool := decide (x.name = y.name) && eqF18 x y
noncomputable def eqF16 (x y : M) : Bool := decide (x.perm = y.perm) && eqF17 x y
noncomputable def eqF15 (x y : M) : Bool := decide (x.mode = y.mode) && eqF16 x y
noncomputable def eqF14 (x y : M) : Bool := decide (x.iounit = y.iounit) && eqF15 x y
noncomputable def eqF13 (x y : M) : Bool := eqQ x.qid y.qid && eqF14 x y
noncomputable def eqF12 (x y : M) : Bool := eqQL x.qids y.qids && eqF13 x y
noncomputable def eqF11 (x y : M) : Bool := decide (x.names = y.names) && eqF12 x y
noncomputable def eqF10 (x y : M) : Bool := decide (x.old = y.old) && eqF11 x y
noncomputable def eqF9 (x y : M) : Bool := decide (x.ename = y.ename) && eqF10 x y
noncomputable def eqF8 (x y : M) : Bool := decide (x.aname = y.aname) && eqF9 x y
noncomputable def eqF7 (x y : M) : Bool := decide (x.uname = y.uname) && eqF8 x y
noncomputable def eqF6 (x y : M) : Bool := decide (x.new = y.new) && eqF7 x y
noncomputable def eqF5 (x y : M) : Bool := decide (x.afid = y.afid) && eqF6 x y
noncomputable def eqF4 (x y : M) : Bool := decide (x.fid = y.fid) && eqF5 x y
noncomputable def eqF3 (x y : M) : Bool := decide (x.version = y.version) && eqF4 x y
noncomputable def eqF2 (x y : M) : Bool := decide (x.msize = y.msize) && eqF3 x y
noncomputable def eqF1 (x y : M) : Bool := decide (x.tag = y.tag) && eqF2 x y
noncomputable def eqF0 (x y : M) : Bool := decide (x.ty = y.ty) && eqF1 x y
def End2 (Q : Exit → Act → World → Prop) (w0 : World) (k5 k6 : Nat) (x y : MV) (r : Bool) : Prop := ∀ a w, Fr a k5 k6 4 r → SW w0 w k5 k6 x y → Q .normal a w

theorem fld_0 (k : Nat) (w : World) : (Instr.fieldAt 41 (pt k 0) 0).run Tryz.prog w = .ok (pt k 0) w := by kernel_rfl
theorem fld_1 (k : Nat) (w : World) : (Instr.fieldAt 41 (pt k 0) 1).run Tryz.prog w = .ok (pt k 1) w := by kernel_rfl
theorem fld_2 (k : Nat) (w : World) : (Instr.fieldAt 41 (pt k 0) 2).run Tryz.prog w = .ok (pt k 2) w := by kernel_rfl
theorem fld_3 (k : Nat) (w : World) : (Instr.fieldAt 41 (pt k 0) 3).run Tryz.prog w = .ok (pt k 3) w := by kernel_rfl
theorem fld_4 (k : Nat) (w : World) : (Instr.fieldAt 41 (pt k 0) 4).run Tryz.prog w = .ok (pt k 4) w := by kernel_rfl
theorem fld_5 (k : Nat) (w : World) : (Instr.fieldAt 41 (pt k 0) 5).run Tryz.prog w = .ok (pt k 5) w := by kernel_rfl
theorem fld_6 (k : Nat) (w : World) : (Instr.fieldAt 41 (pt k 0) 6).run Tryz.prog w = .ok (pt k 6) w := by kernel_rfl
theorem fld_7 (k : Nat) (w : World) : (Instr.fieldAt 41 (pt k 0) 7).run Tryz.prog w = .ok (pt k 7) w := by kernel_rfl
theorem fld_8 (k : Nat) (w : World) : (Instr.fieldAt 41 (pt k 0) 8).run Tryz.prog w = .ok (pt k 8) w := by kernel_rfl
theorem fld_9 (k : Nat) (w : World) : (Instr.fieldAt 41 (pt k 0) 9).run Tryz.prog w = .ok (pt k 9) w := by kernel_rfl
theorem fld_10 (k : Nat) (w : World) : (Instr.fieldAt 41 (pt k 0) 10).run Tryz.prog w = .ok (pt k 10) w := by kernel_rfl
theorem fld_11 (k : Nat) (w : World) : (Instr.fieldAt 41 (pt k 0) 11).run Tryz.prog w = .ok (pt k 11) w := by kernel_rfl
theorem fld_12 (k : Nat) (w : World) : (Instr.fieldAt 41 (pt k 0) 12).run Tryz.prog w = .ok (pt k 12) w := by kernel_rfl
theorem fld_13 (k : Nat) (w : World) : (Instr.fieldAt 41 (pt k 0) 13).run Tryz.prog w = .ok (pt k 13) w := by kernel_rfl
theorem fld_14 (k : Nat) (w : World) : (Instr.fieldAt 41 (pt k 0) 14).run Tryz.prog w = .ok (pt k 16) w := by kernel_rfl
theorem fld_15 (k : Nat) (w : World) : (Instr.fieldAt 41 (pt k 0) 15).run Tryz.prog w = .ok (pt k 17) w := by kernel_rfl
theorem fld_16 (k : Nat) (w : World) : (Instr.fieldAt 41 (pt k 0) 16).run Tryz.prog w = .ok (pt k 18) w := by kernel_rfl
theorem fld_17 (k : Nat) (w : World) : (Instr.fieldAt 41 (pt k 0) 17).run Tryz.prog w = .ok (pt k 19) w := by kernel_rfl
theorem fld_18 (k : Nat) (w : World) : (Instr.fieldAt 41 (pt k 0) 18).run Tryz.prog w = .ok (pt k 20) w := by kernel_rfl
theorem fld_19 (k : Nat) (w : World) : (Instr.fieldAt 41 (pt k 0) 19).run Tryz.prog w = .ok (pt k 21) w := by kernel_rfl
theorem fld_20 (k : Nat) (w : World) : (Instr.fieldAt 41 (pt k 0) 20).run Tryz.prog w = .ok (pt k 22) w := by kernel_rfl
theorem fld_21 (k : Nat) (w : World) : (Instr.fieldAt 41 (pt k 0) 21).run Tryz.prog w = .ok (pt k 23) w := by kernel_rfl
theorem ld_0 {w : World} {k : Nat} {x : MV} (h : w.heap[k]? = some (.cells x.cells 41 (0, 0))) (hok : x.Ok) : (loadVar 5 ⟨k, 0, none⟩).run Tryz.prog w = .ok (.int .u8 (x.m.ty : Int)) w := by
  have c0 : w.cell? ⟨k, 0, none⟩ = some (.int .u8 (x.m.ty : Int)) := by rw [block_cell h 0]; rfl
  simp [go_sem, c0]
theorem ld_1 {w : World} {k : Nat} {x : MV} (h : w.heap[k]? = some (.cells x.cells 41 (0, 0))) (hok : x.Ok) : (loadVar 31 ⟨k, 1, none⟩).run Tryz.prog w = .ok (.int .u16 (x.m.tag : Int)) w := by
  have c0 : w.cell? ⟨k, 1, none⟩ = some (.int .u16 (x.m.tag : Int)) := by rw [block_cell h 1]; rfl
  simp [go_sem, c0]
theorem ld_2 {w : World} {k : Nat} {x : MV} (h : w.heap[k]? = some (.cells x.cells 41 (0, 0))) (hok : x.Ok) : (loadVar 32 ⟨k, 2, none⟩).run Tryz.prog w = .ok (.int .u32 (x.m.msize : Int)) w := by
  have c0 : w.cell? ⟨k, 2, none⟩ = some (.int .u32 (x.m.msize : Int)) := by rw [block_cell h 2]; rfl
  simp [go_sem, c0]
theorem ld_3 {w : World} {k : Nat} {x : MV} (h : w.heap[k]? = some (.cells x.cells 41 (0, 0))) (hok : x.Ok) : (loadVar 9 ⟨k, 3, none⟩).run Tryz.prog w = .ok (.string x.m.version) w := by
  have c0 : w.cell? ⟨k, 3, none⟩ = some (.string x.m.version) := by rw [block_cell h 3]; rfl
  simp [go_sem, c0]
theorem ld_4 {w : World} {k : Nat} {x : MV} (h : w.heap[k]? = some (.cells x.cells 41 (0, 0))) (hok : x.Ok) : (loadVar 32 ⟨k, 4, none⟩).run Tryz.prog w = .ok (.int .u32 (x.m.fid : Int)) w := by
  have c0 : w.cell? ⟨k, 4, none⟩ = some (.int .u32 (x.m.fid : Int)) := by rw [block_cell h 4]; rfl
  simp [go_sem, c0]
theorem ld_5 {w : World} {k : Nat} {x : MV} (h : w.heap[k]? = some (.cells x.cells 41 (0, 0))) (hok : x.Ok) : (loadVar 32 ⟨k, 5, none⟩).run Tryz.prog w = .ok (.int .u32 (x.m.afid : Int)) w := by
  have c0 : w.cell? ⟨k, 5, none⟩ = some (.int .u32 (x.m.afid : Int)) := by rw [block_cell h 5]; rfl
  simp [go_sem, c0]
theorem ld_6 {w : World} {k : Nat} {x : MV} (h : w.heap[k]? = some (.cells x.cells 41 (0, 0))) (hok : x.Ok) : (loadVar 32 ⟨k, 6, none⟩).run Tryz.prog w = .ok (.int .u32 (x.m.new : Int)) w := by
  have c0 : w.cell? ⟨k, 6, none⟩ = some (.int .u32 (x.m.new : Int)) := by rw [block_cell h 6]; rfl
  simp [go_sem, c0]
theorem ld_7 {w : World} {k : Nat} {x : MV} (h : w.heap[k]? = some (.cells x.cells 41 (0, 0))) (hok : x.Ok) : (loadVar 9 ⟨k, 7, none⟩).run Tryz.prog w = .ok (.string x.m.uname) w := by
  have c0 : w.cell? ⟨k, 7, none⟩ = some (.string x.m.uname) := by rw [block_cell h 7]; rfl
  simp [go_sem, c0]
theorem ld_8 {w : World} {k : Nat} {x : MV} (h : w.heap[k]? = some (.cells x.cells 41 (0, 0))) (hok : x.Ok) : (loadVar 9 ⟨k, 8, none⟩).run Tryz.prog w = .ok (.string x.m.aname) w := by
  have c0 : w.cell? ⟨k, 8, none⟩ = some (.string x.m.aname) := by rw [block_cell h 8]; rfl
  simp [go_sem, c0]
theorem ld_9 {w : World} {k : Nat} {x : MV} (h : w.heap[k]? = some (.cells x.cells 41 (0, 0))) (hok : x.Ok) : (loadVar 9 ⟨k, 9, none⟩).run Tryz.prog w = .ok (.string x.m.ename) w := by
  have c0 : w.cell? ⟨k, 9, none⟩ = some (.string x.m.ename) := by rw [block_cell h 9]; rfl
  simp [go_sem, c0]
theorem ld_10 {w : World} {k : Nat} {x : MV} (h : w.heap[k]? = some (.cells x.cells 41 (0, 0))) (hok : x.Ok) : (loadVar 31 ⟨k, 10, none⟩).run Tryz.prog w = .ok (.int .u16 (x.m.old : Int)) w := by
  have c0 : w.cell? ⟨k, 10, none⟩ = some (.int .u16 (x.m.old : Int)) := by rw [block_cell h 10]; rfl
  simp [go_sem, c0]
theorem ld_11 {w : World} {k : Nat} {x : MV} (h : w.heap[k]? = some (.cells x.cells 41 (0, 0))) (hok : x.Ok) : (loadVar 33 ⟨k, 11, none⟩).run Tryz.prog w = .ok (x.n) w := by
  obtain ⟨ad, nn, kk, he⟩ := hok.1
  have c0 : w.cell? ⟨k, 11, none⟩ = some (.slice ad nn kk) := by rw [block_cell h 11, ← he]; rfl
  rw [he]
  simp [go_sem, c0]
theorem ld_12 {w : World} {k : Nat} {x : MV} (h : w.heap[k]? = some (.cells x.cells 41 (0, 0))) (hok : x.Ok) : (loadVar 34 ⟨k, 12, none⟩).run Tryz.prog w = .ok (x.q) w := by
  obtain ⟨ad, nn, kk, he⟩ := hok.2.1
  have c0 : w.cell? ⟨k, 12, none⟩ = some (.slice ad nn kk) := by rw [block_cell h 12, ← he]; rfl
  rw [he]
  simp [go_sem, c0]
theorem ld_13 {w : World} {k : Nat} {x : MV} (h : w.heap[k]? = some (.cells x.cells 41 (0, 0))) (hok : x.Ok) : (loadVar 37 ⟨k, 13, none⟩).run Tryz.prog w = .ok (.agg x.m.qid.cells) w := by
  have hl : (loadCells ⟨k, 13, none⟩ 3).run Tryz.prog w = .ok (x.m.qid.cells) w := by
    refine run_loadCells_list (P := Tryz.prog) w ⟨k, 13, none⟩ [.int .u8 (x.m.qid.t : Int), .int .u32 (x.m.qid.v : Int), .int .u64 (x.m.qid.p : Int)] (fun j v hv => ?_)
    rw [add_plain', block_cell h]
    match j, hv with
    | 0, hv => exact hv
    | 1, hv => exact hv
    | 2, hv => exact hv
    | j + 3, hv => simp at hv
  obtain ⟨i0, hi0, hz0⟩ : ∃ i0, Tryz.prog.info? 37 = some i0 ∧ i0.size = 3 := ⟨_, rfl, rfl⟩
  have hagg : (isAgg 37).run Tryz.prog w = .ok true w := by kernel_rfl
  simp [loadVar, Sem.run_bind, hagg, sizeOf, typeInfo, hi0, hz0, hl]
theorem ld_14 {w : World} {k : Nat} {x : MV} (h : w.heap[k]? = some (.cells x.cells 41 (0, 0))) (hok : x.Ok) : (loadVar 32 ⟨k, 16, none⟩).run Tryz.prog w = .ok (.int .u32 (x.m.iounit : Int)) w := by
  have c0 : w.cell? ⟨k, 16, none⟩ = some (.int .u32 (x.m.iounit : Int)) := by rw [block_cell h 16]; rfl
  simp [go_sem, c0]
theorem ld_15 {w : World} {k : Nat} {x : MV} (h : w.heap[k]? = some (.cells x.cells 41 (0, 0))) (hok : x.Ok) : (loadVar 5 ⟨k, 17, none⟩).run Tryz.prog w = .ok (.int .u8 (x.m.mode : Int)) w := by
  have c0 : w.cell? ⟨k, 17, none⟩ = some (.int .u8 (x.m.mode : Int)) := by rw [block_cell h 17]; rfl
  simp [go_sem, c0]
theorem ld_16 {w : World} {k : Nat} {x : MV} (h : w.heap[k]? = some (.cells x.cells 41 (0, 0))) (hok : x.Ok) : (loadVar 32 ⟨k, 18, none⟩).run Tryz.prog w = .ok (.int .u32 (x.m.perm : Int)) w := by
  have c0 : w.cell? ⟨k, 18, none⟩ = some (.int .u32 (x.m.perm : Int)) := by rw [block_cell h 18]; rfl
  simp [go_sem, c0]
theorem ld_17 {w : World} {k : Nat} {x : MV} (h : w.heap[k]? = some (.cells x.cells 41 (0, 0))) (hok : x.Ok) : (loadVar 9 ⟨k, 19, none⟩).run Tryz.prog w = .ok (.string x.m.name) w := by
  have c0 : w.cell? ⟨k, 19, none⟩ = some (.string x.m.name) := by rw [block_cell h 19]; rfl
  simp [go_sem, c0]
theorem ld_18 {w : World} {k : Nat} {x : MV} (h : w.heap[k]? = some (.cells x.cells 41 (0, 0))) (hok : x.Ok) : (loadVar 35 ⟨k, 20, none⟩).run Tryz.prog w = .ok (.int .u64 (x.m.offset : Int)) w := by
  have c0 : w.cell? ⟨k, 20, none⟩ = some (.int .u64 (x.m.offset : Int)) := by rw [block_cell h 20]; rfl
  simp [go_sem, c0]
theorem ld_19 {w : World} {k : Nat} {x : MV} (h : w.heap[k]? = some (.cells x.cells 41 (0, 0))) (hok : x.Ok) : (loadVar 32 ⟨k, 21, none⟩).run Tryz.prog w = .ok (.int .u32 (x.m.count : Int)) w := by
  have c0 : w.cell? ⟨k, 21, none⟩ = some (.int .u32 (x.m.count : Int)) := by rw [block_cell h 21]; rfl
  simp [go_sem, c0]
theorem ld_20 {w : World} {k : Nat} {x : MV} (h : w.heap[k]? = some (.cells x.cells 41 (0, 0))) (hok : x.Ok) : (loadVar 29 ⟨k, 22, none⟩).run Tryz.prog w = .ok (x.d) w := by
  obtain ⟨ad, nn, kk, he⟩ := hok.2.2
  have c0 : w.cell? ⟨k, 22, none⟩ = some (.slice ad nn kk) := by rw [block_cell h 22, ← he]; rfl
  rw [he]
  simp [go_sem, c0]
theorem ld_21 {w : World} {k : Nat} {x : MV} (h : w.heap[k]? = some (.cells x.cells 41 (0, 0))) (hok : x.Ok) : (loadVar 39 ⟨k, 23, none⟩).run Tryz.prog w = .ok (.agg x.m.stat.cells) w := by
  have hl : (loadCells ⟨k, 23, none⟩ 13).run Tryz.prog w = .ok (x.m.stat.cells) w := by
    refine run_loadCells_list (P := Tryz.prog) w ⟨k, 23, none⟩ [.int .u16 (x.m.stat.kind : Int), .int .u32 (x.m.stat.dev : Int), .int .u8 (x.m.stat.qt : Int), .int .u32 (x.m.stat.qv : Int), .int .u64 (x.m.stat.qp : Int), .int .u32 (x.m.stat.mode : Int), .int .u32 (x.m.stat.atm : Int), .int .u32 (x.m.stat.mtm : Int), .int .u64 (x.m.stat.len : Int), .string x.m.stat.name, .string x.m.stat.uid, .string x.m.stat.gid, .string x.m.stat.muid] (fun j v hv => ?_)
    rw [add_plain', block_cell h]
    match j, hv with
    | 0, hv => exact hv
    | 1, hv => exact hv
    | 2, hv => exact hv
    | 3, hv => exact hv
    | 4, hv => exact hv
    | 5, hv => exact hv
    | 6, hv => exact hv
    | 7, hv => exact hv
    | 8, hv => exact hv
    | 9, hv => exact hv
    | 10, hv => exact hv
    | 11, hv => exact hv
    | 12, hv => exact hv
    | j + 13, hv => simp at hv
  obtain ⟨i0, hi0, hz0⟩ : ∃ i0, Tryz.prog.info? 39 = some i0 ∧ i0.size = 13 := ⟨_, rfl, rfl⟩
  have hagg : (isAgg 39).run Tryz.prog w = .ok true w := by kernel_rfl
  simp [loadVar, Sem.run_bind, hagg, sizeOf, typeInfo, hi0, hz0, hl]
theorem ck_21 : Chunk ops_same2 157 156 145 21 39 (some 4) (l_same2[146]'(by rw [len_same2]; decide)) (l_same2[147]'(by rw [len_same2]; decide)) (l_same2[148]'(by rw [len_same2]; decide)) (l_same2[149]'(by rw [len_same2]; decide)) (l_same2[150]'(by rw [len_same2]; decide)) (l_same2[151]'(by rw [len_same2]; decide)) (l_same2[152]'(by rw [len_same2]; decide)) :=
  ⟨by kernel_rfl, ⟨by kernel_rfl, by kernel_rfl, by kernel_rfl⟩, ⟨by kernel_rfl, by kernel_rfl, by kernel_rfl⟩, ⟨by kernel_rfl, by kernel_rfl, by kernel_rfl⟩, ⟨by kernel_rfl, by kernel_rfl, by kernel_rfl⟩, ⟨by kernel_rfl, by kernel_rfl⟩, ⟨by kernel_rfl, by kernel_rfl, by kernel_rfl⟩, ⟨by kernel_rfl, .inr (by kernel_rfl), by kernel_rfl⟩, by decide⟩
theorem sf_21 {w0 w : World} {k5 k6 : Nat} {x y : MV} {Q : Exit → Act → World → Prop} {a : Act} (h : Fr a k5 k6 156 false) (hW : SW w0 w k5 k6 x y) (hE : End2 Q w0 k5 k6 x y false) : wpList Tryz.prog ops_same2 Q (l_same2.drop 146) a w := by
  rw [drop_seven _ _ (by rw [len_same2]; decide)]
  refine chunk_false ck_21 (by omega) (by omega) h (fun a h' => ?_)
  rw [show l_same2.drop 153 = [] from by kernel_rfl]
  exact hE a w h' hW
theorem st_21 {w0 w : World} {k5 k6 : Nat} {x y : MV} {Q : Exit → Act → World → Prop} {a : Act} (h : Fr a k5 k6 156 true) (hW : SW w0 w k5 k6 x y) (hx : x.At w0) (hy : y.At w0) (hE : ∀ r, r = eqF21 x.m y.m → End2 Q w0 k5 k6 x y r) : wpList Tryz.prog ops_same2 Q (l_same2.drop 146) a w := by
  have hxw := hx.below hW.below
  have hyw := hy.below hW.below
  rw [drop_seven _ _ (by rw [len_same2]; decide)]
  refine chunk_true (i := 23) ck_21 (by omega) (by omega) h fld_21 _ _ (ld_21 hW.bx hxw.ok) (ld_21 hW.bw hyw.ok) (eqS x.m.stat y.m.stat) (fun w' => w' = w) (cmp_bin (by kernel_rfl) (by kernel_rfl) (by kernel_rfl) (stat_cmp _ _ w)) (fun w' hR a h' => ?_)
  subst hR
  rw [show l_same2.drop 153 = [] from by kernel_rfl]
  exact hE _ rfl a _ h' hW
theorem ck_20 : Chunk ops_same2 150 149 138 20 29 (some 156) (l_same2[139]'(by rw [len_same2]; decide)) (l_same2[140]'(by rw [len_same2]; decide)) (l_same2[141]'(by rw [len_same2]; decide)) (l_same2[142]'(by rw [len_same2]; decide)) (l_same2[143]'(by rw [len_same2]; decide)) (l_same2[144]'(by rw [len_same2]; decide)) (l_same2[145]'(by rw [len_same2]; decide)) :=
  ⟨by kernel_rfl, ⟨by kernel_rfl, by kernel_rfl, by kernel_rfl⟩, ⟨by kernel_rfl, by kernel_rfl, by kernel_rfl⟩, ⟨by kernel_rfl, by kernel_rfl, by kernel_rfl⟩, ⟨by kernel_rfl, by kernel_rfl, by kernel_rfl⟩, ⟨by kernel_rfl, by kernel_rfl⟩, ⟨by kernel_rfl, by kernel_rfl, by kernel_rfl⟩, ⟨by kernel_rfl, .inl (by kernel_rfl), by kernel_rfl⟩, by decide⟩
theorem sf_20 {w0 w : World} {k5 k6 : Nat} {x y : MV} {Q : Exit → Act → World → Prop} {a : Act} (h : Fr a k5 k6 149 false) (hW : SW w0 w k5 k6 x y) (hE : End2 Q w0 k5 k6 x y false) : wpList Tryz.prog ops_same2 Q (l_same2.drop 139) a w := by
  rw [drop_seven _ _ (by rw [len_same2]; decide)]
  exact chunk_false ck_20 (by omega) (by omega) h (fun a h' => sf_21 h' hW hE)
theorem st_20 {w0 w : World} {k5 k6 : Nat} {x y : MV} {Q : Exit → Act → World → Prop} {a : Act} (h : Fr a k5 k6 149 true) (hW : SW w0 w k5 k6 x y) (hx : x.At w0) (hy : y.At w0) (hE : ∀ r, r = eqF20 x.m y.m → End2 Q w0 k5 k6 x y r) : wpList Tryz.prog ops_same2 Q (l_same2.drop 139) a w := by
  have hxw := hx.below hW.below
  have hyw := hy.below hW.below
  rw [drop_seven _ _ (by rw [len_same2]; decide)]
  refine chunk_true (i := 22) ck_20 (by omega) (by omega) h fld_20 _ _ (ld_20 hW.bx hxw.ok) (ld_20 hW.bw hyw.ok) (decide (x.m.data = y.m.data)) (fun w' => Below w.heap.size w w') (cmp_call (fn := 30) (t := 29) (by kernel_rfl) (by kernel_rfl) (by kernel_rfl) (beq_any _ _ _ _ w hxw.2.2 hyw.2.2)) (fun w' hR a h' => ?_)
  rcases hb : (decide (x.m.data = y.m.data)) with _ | _
  · rw [hb] at h'
    exact sf_21 h' (hW.next hR) (hE _ (by unfold eqF20; rw [hb]; rfl))
  · rw [hb] at h'
    exact st_21 h' (hW.next hR) hx hy (fun r hr => hE r (by unfold eqF20; rw [hb, hr]; rfl))
theorem ck_19 : Chunk ops_same2 143 142 131 19 32 (some 149) (l_same2[132]'(by rw [len_same2]; decide)) (l_same2[133]'(by rw [len_same2]; decide)) (l_same2[134]'(by rw [len_same2]; decide)) (l_same2[135]'(by rw [len_same2]; decide)) (l_same2[136]'(by rw [len_same2]; decide)) (l_same2[137]'(by rw [len_same2]; decide)) (l_same2[138]'(by rw [len_same2]; decide)) :=
  ⟨by kernel_rfl, ⟨by kernel_rfl, by kernel_rfl, by kernel_rfl⟩, ⟨by kernel_rfl, by kernel_rfl, by kernel_rfl⟩, ⟨by kernel_rfl, by kernel_rfl, by kernel_rfl⟩, ⟨by kernel_rfl, by kernel_rfl, by kernel_rfl⟩, ⟨by kernel_rfl, by kernel_rfl⟩, ⟨by kernel_rfl, by kernel_rfl, by kernel_rfl⟩, ⟨by kernel_rfl, .inl (by kernel_rfl), by kernel_rfl⟩, by decide⟩
theorem sf_19 {w0 w : World} {k5 k6 : Nat} {x y : MV} {Q : Exit → Act → World → Prop} {a : Act} (h : Fr a k5 k6 142 false) (hW : SW w0 w k5 k6 x y) (hE : End2 Q w0 k5 k6 x y false) : wpList Tryz.prog ops_same2 Q (l_same2.drop 132) a w := by
  rw [drop_seven _ _ (by rw [len_same2]; decide)]
  exact chunk_false ck_19 (by omega) (by omega) h (fun a h' => sf_20 h' hW hE)
theorem st_19 {w0 w : World} {k5 k6 : Nat} {x y : MV} {Q : Exit → Act → World → Prop} {a : Act} (h : Fr a k5 k6 142 true) (hW : SW w0 w k5 k6 x y) (hx : x.At w0) (hy : y.At w0) (hE : ∀ r, r = eqF19 x.m y.m → End2 Q w0 k5 k6 x y r) : wpList Tryz.prog ops_same2 Q (l_same2.drop 132) a w := by
  have hxw := hx.below hW.below
  have hyw := hy.below hW.below
  rw [drop_seven _ _ (by rw [len_same2]; decide)]
  refine chunk_true (i := 21) ck_19 (by omega) (by omega) h fld_19 _ _ (ld_19 hW.bx hxw.ok) (ld_19 hW.bw hyw.ok) (decide (x.m.count = y.m.count)) (fun w' => w' = w) (cmp_bin (by kernel_rfl) (by kernel_rfl) (by kernel_rfl) (beq_u32 _ _ w)) (fun w' hR a h' => ?_)
  subst hR
  rcases hb : (decide (x.m.count = y.m.count)) with _ | _
  · rw [hb] at h'
    exact sf_20 h' hW (hE _ (by unfold eqF19; rw [hb]; rfl))
  · rw [hb] at h'
    exact st_20 h' hW hx hy (fun r hr => hE r (by unfold eqF19; rw [hb, hr]; rfl))
theorem ck_18 : Chunk ops_same2 136 135 124 18 35 (some 142) (l_same2[125]'(by rw [len_same2]; decide)) (l_same2[126]'(by rw [len_same2]; decide)) (l_same2[127]'(by rw [len_same2]; decide)) (l_same2[128]'(by rw [len_same2]; decide)) (l_same2[129]'(by rw [len_same2]; decide)) (l_same2[130]'(by rw [len_same2]; decide)) (l_same2[131]'(by rw [len_same2]; decide)) :=
  ⟨by kernel_rfl, ⟨by kernel_rfl, by kernel_rfl, by kernel_rfl⟩, ⟨by kernel_rfl, by kernel_rfl, by kernel_rfl⟩, ⟨by kernel_rfl, by kernel_rfl, by kernel_rfl⟩, ⟨by kernel_rfl, by kernel_rfl, by kernel_rfl⟩, ⟨by kernel_rfl, by kernel_rfl⟩, ⟨by kernel_rfl, by kernel_rfl, by kernel_rfl⟩, ⟨by kernel_rfl, .inl (by kernel_rfl), by kernel_rfl⟩, by decide⟩
theorem sf_18 {w0 w : World} {k5 k6 : Nat} {x y : MV} {Q : Exit → Act → World → Prop} {a : Act} (h : Fr a k5 k6 135 false) (hW : SW w0 w k5 k6 x y) (hE : End2 Q w0 k5 k6 x y false) : wpList Tryz.prog ops_same2 Q (l_same2.drop 125) a w := by
  rw [drop_seven _ _ (by rw [len_same2]; decide)]
  exact chunk_false ck_18 (by omega) (by omega) h (fun a h' => sf_19 h' hW hE)
theorem st_18 {w0 w : World} {k5 k6 : Nat} {x y : MV} {Q : Exit → Act → World → Prop} {a : Act} (h : Fr a k5 k6 135 true) (hW : SW w0 w k5 k6 x y) (hx : x.At w0) (hy : y.At w0) (hE : ∀ r, r = eqF18 x.m y.m → End2 Q w0 k5 k6 x y r) : wpList Tryz.prog ops_same2 Q (l_same2.drop 125) a w := by
  have hxw := hx.below hW.below
  have hyw := hy.below hW.below
  rw [drop_seven _ _ (by rw [len_same2]; decide)]
  refine chunk_true (i := 20) ck_18 (by omega) (by omega) h fld_18 _ _ (ld_18 hW.bx hxw.ok) (ld_18 hW.bw hyw.ok) (decide (x.m.offset = y.m.offset)) (fun w' => w' = w) (cmp_bin (by kernel_rfl) (by kernel_rfl) (by kernel_rfl) (beq_u64 _ _ w)) (fun w' hR a h' => ?_)
  subst hR
  rcases hb : (decide (x.m.offset = y.m.offset)) with _ | _
  · rw [hb] at h'
    exact sf_19 h' hW (hE _ (by unfold eqF18; rw [hb]; rfl))
  · rw [hb] at h'
    exact st_19 h' hW hx hy (fun r hr => hE r (by unfold eqF18; rw [hb, hr]; rfl))
theorem ck_17 : Chunk ops_same2 129 128 117 17 9 (some 135) (l_same2[118]'(by rw [len_same2]; decide)) (l_same2[119]'(by rw [len_same2]; decide)) (l_same2[120]'(by rw [len_same2]; decide)) (l_same2[121]'(by rw [len_same2]; decide)) (l_same2[122]'(by rw [len_same2]; decide)) (l_same2[123]'(by rw [len_same2]; decide)) (l_same2[124]'(by rw [len_same2]; decide)) :=
  ⟨by kernel_rfl, ⟨by kernel_rfl, by kernel_rfl, by kernel_rfl⟩, ⟨by kernel_rfl, by kernel_rfl, by kernel_rfl⟩, ⟨by kernel_rfl, by kernel_rfl, by kernel_rfl⟩, ⟨by kernel_rfl, by kernel_rfl, by kernel_rfl⟩, ⟨by kernel_rfl, by kernel_rfl⟩, ⟨by kernel_rfl, by kernel_rfl, by kernel_rfl⟩, ⟨by kernel_rfl, .inl (by kernel_rfl), by kernel_rfl⟩, by decide⟩
theorem sf_17 {w0 w : World} {k5 k6 : Nat} {x y : MV} {Q : Exit → Act → World → Prop} {a : Act} (h : Fr a k5 k6 128 false) (hW : SW w0 w k5 k6 x y) (hE : End2 Q w0 k5 k6 x y false) : wpList Tryz.prog ops_same2 Q (l_same2.drop 118) a w := by
  rw [drop_seven _ _ (by rw [len_same2]; decide)]
  exact chunk_false ck_17 (by omega) (by omega) h (fun a h' => sf_18 h' hW hE)
theorem st_17 {w0 w : World} {k5 k6 : Nat} {x y : MV} {Q : Exit → Act → World → Prop} {a : Act} (h : Fr a k5 k6 128 true) (hW : SW w0 w k5 k6 x y) (hx : x.At w0) (hy : y.At w0) (hE : ∀ r, r = eqF17 x.m y.m → End2 Q w0 k5 k6 x y r) : wpList Tryz.prog ops_same2 Q (l_same2.drop 118) a w := by
  have hxw := hx.below hW.below
  have hyw := hy.below hW.below
  rw [drop_seven _ _ (by rw [len_same2]; decide)]
  refine chunk_true (i := 19) ck_17 (by omega) (by omega) h fld_17 _ _ (ld_17 hW.bx hxw.ok) (ld_17 hW.bw hyw.ok) (decide (x.m.name = y.m.name)) (fun w' => w' = w) (cmp_bin (by kernel_rfl) (by kernel_rfl) (by kernel_rfl) (beq_str _ _ w)) (fun w' hR a h' => ?_)
  subst hR
  rcases hb : (decide (x.m.name = y.m.name)) with _ | _
  · rw [hb] at h'
    exact sf_18 h' hW (hE _ (by unfold eqF17; rw [hb]; rfl))
  · rw [hb] at h'
    exact st_18 h' hW hx hy (fun r hr => hE r (by unfold eqF17; rw [hb, hr]; rfl))
theorem ck_16 : Chunk ops_same2 122 121 110 16 32 (some 128) (l_same2[111]'(by rw [len_same2]; decide)) (l_same2[112]'(by rw [len_same2]; decide)) (l_same2[113]'(by rw [len_same2]; decide)) (l_same2[114]'(by rw [len_same2]; decide)) (l_same2[115]'(by rw [len_same2]; decide)) (l_same2[116]'(by rw [len_same2]; decide)) (l_same2[117]'(by rw [len_same2]; decide)) :=
  ⟨by kernel_rfl, ⟨by kernel_rfl, by kernel_rfl, by kernel_rfl⟩, ⟨by kernel_rfl, by kernel_rfl, by kernel_rfl⟩, ⟨by kernel_rfl, by kernel_rfl, by kernel_rfl⟩, ⟨by kernel_rfl, by kernel_rfl, by kernel_rfl⟩, ⟨by kernel_rfl, by kernel_rfl⟩, ⟨by kernel_rfl, by kernel_rfl, by kernel_rfl⟩, ⟨by kernel_rfl, .inl (by kernel_rfl), by kernel_rfl⟩, by decide⟩
theorem sf_16 {w0 w : World} {k5 k6 : Nat} {x y : MV} {Q : Exit → Act → World → Prop} {a : Act} (h : Fr a k5 k6 121 false) (hW : SW w0 w k5 k6 x y) (hE : End2 Q w0 k5 k6 x y false) : wpList Tryz.prog ops_same2 Q (l_same2.drop 111) a w := by
  rw [drop_seven _ _ (by rw [len_same2]; decide)]
  exact chunk_false ck_16 (by omega) (by omega) h (fun a h' => sf_17 h' hW hE)
theorem st_16 {w0 w : World} {k5 k6 : Nat} {x y : MV} {Q : Exit → Act → World → Prop} {a : Act} (h : Fr a k5 k6 121 true) (hW : SW w0 w k5 k6 x y) (hx : x.At w0) (hy : y.At w0) (hE : ∀ r, r = eqF16 x.m y.m → End2 Q w0 k5 k6 x y r) : wpList Tryz.prog ops_same2 Q (l_same2.drop 111) a w := by
  have hxw := hx.below hW.below
  have hyw := hy.below hW.below
  rw [drop_seven _ _ (by rw [len_same2]; decide)]
  refine chunk_true (i := 18) ck_16 (by omega) (by omega) h fld_16 _ _ (ld_16 hW.bx hxw.ok) (ld_16 hW.bw hyw.ok) (decide (x.m.perm = y.m.perm)) (fun w' => w' = w) (cmp_bin (by kernel_rfl) (by kernel_rfl) (by kernel_rfl) (beq_u32 _ _ w)) (fun w' hR a h' => ?_)
  subst hR
  rcases hb : (decide (x.m.perm = y.m.perm)) with _ | _
  · rw [hb] at h'
    exact sf_17 h' hW (hE _ (by unfold eqF16; rw [hb]; rfl))
  · rw [hb] at h'
    exact st_17 h' hW hx hy (fun r hr => hE r (by unfold eqF16; rw [hb, hr]; rfl))
theorem ck_15 : Chunk ops_same2 115 114 103 15 5 (some 121) (l_same2[104]'(by rw [len_same2]; decide)) (l_same2[105]'(by rw [len_same2]; decide)) (l_same2[106]'(by rw [len_same2]; decide)) (l_same2[107]'(by rw [len_same2]; decide)) (l_same2[108]'(by rw [len_same2]; decide)) (l_same2[109]'(by rw [len_same2]; decide)) (l_same2[110]'(by rw [len_same2]; decide)) :=
  ⟨by kernel_rfl, ⟨by kernel_rfl, by kernel_rfl, by kernel_rfl⟩, ⟨by kernel_rfl, by kernel_rfl, by kernel_rfl⟩, ⟨by kernel_rfl, by kernel_rfl, by kernel_rfl⟩, ⟨by kernel_rfl, by kernel_rfl, by kernel_rfl⟩, ⟨by kernel_rfl, by kernel_rfl⟩, ⟨by kernel_rfl, by kernel_rfl, by kernel_rfl⟩, ⟨by kernel_rfl, .inl (by kernel_rfl), by kernel_rfl⟩, by decide⟩
theorem sf_15 {w0 w : World} {k5 k6 : Nat} {x y : MV} {Q : Exit → Act → World → Prop} {a : Act} (h : Fr a k5 k6 114 false) (hW : SW w0 w k5 k6 x y) (hE : End2 Q w0 k5 k6 x y false) : wpList Tryz.prog ops_same2 Q (l_same2.drop 104) a w := by
  rw [drop_seven _ _ (by rw [len_same2]; decide)]
  exact chunk_false ck_15 (by omega) (by omega) h (fun a h' => sf_16 h' hW hE)
theorem st_15 {w0 w : World} {k5 k6 : Nat} {x y : MV} {Q : Exit → Act → World → Prop} {a : Act} (h : Fr a k5 k6 114 true) (hW : SW w0 w k5 k6 x y) (hx : x.At w0) (hy : y.At w0) (hE : ∀ r, r = eqF15 x.m y.m → End2 Q w0 k5 k6 x y r) : wpList Tryz.prog ops_same2 Q (l_same2.drop 104) a w := by
  have hxw := hx.below hW.below
  have hyw := hy.below hW.below
  rw [drop_seven _ _ (by rw [len_same2]; decide)]
  refine chunk_true (i := 17) ck_15 (by omega) (by omega) h fld_15 _ _ (ld_15 hW.bx hxw.ok) (ld_15 hW.bw hyw.ok) (decide (x.m.mode = y.m.mode)) (fun w' => w' = w) (cmp_bin (by kernel_rfl) (by kernel_rfl) (by kernel_rfl) (beq_u8 _ _ w)) (fun w' hR a h' => ?_)
  subst hR
  rcases hb : (decide (x.m.mode = y.m.mode)) with _ | _
  · rw [hb] at h'
    exact sf_16 h' hW (hE _ (by unfold eqF15; rw [hb]; rfl))
  · rw [hb] at h'
    exact st_16 h' hW hx hy (fun r hr => hE r (by unfold eqF15; rw [hb, hr]; rfl))
theorem ck_14 : Chunk ops_same2 108 107 96 14 32 (some 114) (l_same2[97]'(by rw [len_same2]; decide)) (l_same2[98]'(by rw [len_same2]; decide)) (l_same2[99]'(by rw [len_same2]; decide)) (l_same2[100]'(by rw [len_same2]; decide)) (l_same2[101]'(by rw [len_same2]; decide)) (l_same2[102]'(by rw [len_same2]; decide)) (l_same2[103]'(by rw [len_same2]; decide)) :=
  ⟨by kernel_rfl, ⟨by kernel_rfl, by kernel_rfl, by kernel_rfl⟩, ⟨by kernel_rfl, by kernel_rfl, by kernel_rfl⟩, ⟨by kernel_rfl, by kernel_rfl, by kernel_rfl⟩, ⟨by kernel_rfl, by kernel_rfl, by kernel_rfl⟩, ⟨by kernel_rfl, by kernel_rfl⟩, ⟨by kernel_rfl, by kernel_rfl, by kernel_rfl⟩, ⟨by kernel_rfl, .inl (by kernel_rfl), by kernel_rfl⟩, by decide⟩
theorem sf_14 {w0 w : World} {k5 k6 : Nat} {x y : MV} {Q : Exit → Act → World → Prop} {a : Act} (h : Fr a k5 k6 107 false) (hW : SW w0 w k5 k6 x y) (hE : End2 Q w0 k5 k6 x y false) : wpList Tryz.prog ops_same2 Q (l_same2.drop 97) a w := by
  rw [drop_seven _ _ (by rw [len_same2]; decide)]
  exact chunk_false ck_14 (by omega) (by omega) h (fun a h' => sf_15 h' hW hE)
theorem st_14 {w0 w : World} {k5 k6 : Nat} {x y : MV} {Q : Exit → Act → World → Prop} {a : Act} (h : Fr a k5 k6 107 true) (hW : SW w0 w k5 k6 x y) (hx : x.At w0) (hy : y.At w0) (hE : ∀ r, r = eqF14 x.m y.m → End2 Q w0 k5 k6 x y r) : wpList Tryz.prog ops_same2 Q (l_same2.drop 97) a w := by
  have hxw := hx.below hW.below
  have hyw := hy.below hW.below
  rw [drop_seven _ _ (by rw [len_same2]; decide)]
  refine chunk_true (i := 16) ck_14 (by omega) (by omega) h fld_14 _ _ (ld_14 hW.bx hxw.ok) (ld_14 hW.bw hyw.ok) (decide (x.m.iounit = y.m.iounit)) (fun w' => w' = w) (cmp_bin (by kernel_rfl) (by kernel_rfl) (by kernel_rfl) (beq_u32 _ _ w)) (fun w' hR a h' => ?_)
  subst hR
  rcases hb : (decide (x.m.iounit = y.m.iounit)) with _ | _
  · rw [hb] at h'
    exact sf_15 h' hW (hE _ (by unfold eqF14; rw [hb]; rfl))
  · rw [hb] at h'
    exact st_15 h' hW hx hy (fun r hr => hE r (by unfold eqF14; rw [hb, hr]; rfl))
theorem ck_13 : Chunk ops_same2 101 100 89 13 37 (some 107) (l_same2[90]'(by rw [len_same2]; decide)) (l_same2[91]'(by rw [len_same2]; decide)) (l_same2[92]'(by rw [len_same2]; decide)) (l_same2[93]'(by rw [len_same2]; decide)) (l_same2[94]'(by rw [len_same2]; decide)) (l_same2[95]'(by rw [len_same2]; decide)) (l_same2[96]'(by rw [len_same2]; decide)) :=
  ⟨by kernel_rfl, ⟨by kernel_rfl, by kernel_rfl, by kernel_rfl⟩, ⟨by kernel_rfl, by kernel_rfl, by kernel_rfl⟩, ⟨by kernel_rfl, by kernel_rfl, by kernel_rfl⟩, ⟨by kernel_rfl, by kernel_rfl, by kernel_rfl⟩, ⟨by kernel_rfl, by kernel_rfl⟩, ⟨by kernel_rfl, by kernel_rfl, by kernel_rfl⟩, ⟨by kernel_rfl, .inl (by kernel_rfl), by kernel_rfl⟩, by decide⟩
theorem sf_13 {w0 w : World} {k5 k6 : Nat} {x y : MV} {Q : Exit → Act → World → Prop} {a : Act} (h : Fr a k5 k6 100 false) (hW : SW w0 w k5 k6 x y) (hE : End2 Q w0 k5 k6 x y false) : wpList Tryz.prog ops_same2 Q (l_same2.drop 90) a w := by
  rw [drop_seven _ _ (by rw [len_same2]; decide)]
  exact chunk_false ck_13 (by omega) (by omega) h (fun a h' => sf_14 h' hW hE)
theorem st_13 {w0 w : World} {k5 k6 : Nat} {x y : MV} {Q : Exit → Act → World → Prop} {a : Act} (h : Fr a k5 k6 100 true) (hW : SW w0 w k5 k6 x y) (hx : x.At w0) (hy : y.At w0) (hE : ∀ r, r = eqF13 x.m y.m → End2 Q w0 k5 k6 x y r) : wpList Tryz.prog ops_same2 Q (l_same2.drop 90) a w := by
  have hxw := hx.below hW.below
  have hyw := hy.below hW.below
  rw [drop_seven _ _ (by rw [len_same2]; decide)]
  refine chunk_true (i := 13) ck_13 (by omega) (by omega) h fld_13 _ _ (ld_13 hW.bx hxw.ok) (ld_13 hW.bw hyw.ok) (eqQ x.m.qid y.m.qid) (fun w' => w' = w) (cmp_bin (by kernel_rfl) (by kernel_rfl) (by kernel_rfl) (qid_cmp _ _ w)) (fun w' hR a h' => ?_)
  subst hR
  rcases hb : (eqQ x.m.qid y.m.qid) with _ | _
  · rw [hb] at h'
    exact sf_14 h' hW (hE _ (by unfold eqF13; rw [hb]; rfl))
  · rw [hb] at h'
    exact st_14 h' hW hx hy (fun r hr => hE r (by unfold eqF13; rw [hb, hr]; rfl))
theorem ck_12 : Chunk ops_same2 94 93 82 12 34 (some 100) (l_same2[83]'(by rw [len_same2]; decide)) (l_same2[84]'(by rw [len_same2]; decide)) (l_same2[85]'(by rw [len_same2]; decide)) (l_same2[86]'(by rw [len_same2]; decide)) (l_same2[87]'(by rw [len_same2]; decide)) (l_same2[88]'(by rw [len_same2]; decide)) (l_same2[89]'(by rw [len_same2]; decide)) :=
  ⟨by kernel_rfl, ⟨by kernel_rfl, by kernel_rfl, by kernel_rfl⟩, ⟨by kernel_rfl, by kernel_rfl, by kernel_rfl⟩, ⟨by kernel_rfl, by kernel_rfl, by kernel_rfl⟩, ⟨by kernel_rfl, by kernel_rfl, by kernel_rfl⟩, ⟨by kernel_rfl, by kernel_rfl⟩, ⟨by kernel_rfl, by kernel_rfl, by kernel_rfl⟩, ⟨by kernel_rfl, .inl (by kernel_rfl), by kernel_rfl⟩, by decide⟩
theorem sf_12 {w0 w : World} {k5 k6 : Nat} {x y : MV} {Q : Exit → Act → World → Prop} {a : Act} (h : Fr a k5 k6 93 false) (hW : SW w0 w k5 k6 x y) (hE : End2 Q w0 k5 k6 x y false) : wpList Tryz.prog ops_same2 Q (l_same2.drop 83) a w := by
  rw [drop_seven _ _ (by rw [len_same2]; decide)]
  exact chunk_false ck_12 (by omega) (by omega) h (fun a h' => sf_13 h' hW hE)
theorem st_12 {w0 w : World} {k5 k6 : Nat} {x y : MV} {Q : Exit → Act → World → Prop} {a : Act} (h : Fr a k5 k6 93 true) (hW : SW w0 w k5 k6 x y) (hx : x.At w0) (hy : y.At w0) (hE : ∀ r, r = eqF12 x.m y.m → End2 Q w0 k5 k6 x y r) : wpList Tryz.prog ops_same2 Q (l_same2.drop 83) a w := by
  have hxw := hx.below hW.below
  have hyw := hy.below hW.below
  rw [drop_seven _ _ (by rw [len_same2]; decide)]
  refine chunk_true (i := 12) ck_12 (by omega) (by omega) h fld_12 _ _ (ld_12 hW.bx hxw.ok) (ld_12 hW.bw hyw.ok) (eqQL x.m.qids y.m.qids) (fun w' => Below w.heap.size w w') (cmp_call (fn := 29) (t := 34) (by kernel_rfl) (by kernel_rfl) (by kernel_rfl) (qeq_any _ _ _ _ w hxw.2.1 hyw.2.1)) (fun w' hR a h' => ?_)
  rcases hb : (eqQL x.m.qids y.m.qids) with _ | _
  · rw [hb] at h'
    exact sf_13 h' (hW.next hR) (hE _ (by unfold eqF12; rw [hb]; rfl))
  · rw [hb] at h'
    exact st_13 h' (hW.next hR) hx hy (fun r hr => hE r (by unfold eqF12; rw [hb, hr]; rfl))
theorem ck_11 : Chunk ops_same2 87 86 75 11 33 (some 93) (l_same2[76]'(by rw [len_same2]; decide)) (l_same2[77]'(by rw [len_same2]; decide)) (l_same2[78]'(by rw [len_same2]; decide)) (l_same2[79]'(by rw [len_same2]; decide)) (l_same2[80]'(by rw [len_same2]; decide)) (l_same2[81]'(by rw [len_same2]; decide)) (l_same2[82]'(by rw [len_same2]; decide)) :=
  ⟨by kernel_rfl, ⟨by kernel_rfl, by kernel_rfl, by kernel_rfl⟩, ⟨by kernel_rfl, by kernel_rfl, by kernel_rfl⟩, ⟨by kernel_rfl, by kernel_rfl, by kernel_rfl⟩, ⟨by kernel_rfl, by kernel_rfl, by kernel_rfl⟩, ⟨by kernel_rfl, by kernel_rfl⟩, ⟨by kernel_rfl, by kernel_rfl, by kernel_rfl⟩, ⟨by kernel_rfl, .inl (by kernel_rfl), by kernel_rfl⟩, by decide⟩
theorem sf_11 {w0 w : World} {k5 k6 : Nat} {x y : MV} {Q : Exit → Act → World → Prop} {a : Act} (h : Fr a k5 k6 86 false) (hW : SW w0 w k5 k6 x y) (hE : End2 Q w0 k5 k6 x y false) : wpList Tryz.prog ops_same2 Q (l_same2.drop 76) a w := by
  rw [drop_seven _ _ (by rw [len_same2]; decide)]
  exact chunk_false ck_11 (by omega) (by omega) h (fun a h' => sf_12 h' hW hE)
theorem st_11 {w0 w : World} {k5 k6 : Nat} {x y : MV} {Q : Exit → Act → World → Prop} {a : Act} (h : Fr a k5 k6 86 true) (hW : SW w0 w k5 k6 x y) (hx : x.At w0) (hy : y.At w0) (hE : ∀ r, r = eqF11 x.m y.m → End2 Q w0 k5 k6 x y r) : wpList Tryz.prog ops_same2 Q (l_same2.drop 76) a w := by
  have hxw := hx.below hW.below
  have hyw := hy.below hW.below
  rw [drop_seven _ _ (by rw [len_same2]; decide)]
  refine chunk_true (i := 11) ck_11 (by omega) (by omega) h fld_11 _ _ (ld_11 hW.bx hxw.ok) (ld_11 hW.bw hyw.ok) (decide (x.m.names = y.m.names)) (fun w' => Below w.heap.size w w') (cmp_call (fn := 28) (t := 33) (by kernel_rfl) (by kernel_rfl) (by kernel_rfl) (seq_any _ _ _ _ w hxw.1 hyw.1)) (fun w' hR a h' => ?_)
  rcases hb : (decide (x.m.names = y.m.names)) with _ | _
  · rw [hb] at h'
    exact sf_12 h' (hW.next hR) (hE _ (by unfold eqF11; rw [hb]; rfl))
  · rw [hb] at h'
    exact st_12 h' (hW.next hR) hx hy (fun r hr => hE r (by unfold eqF11; rw [hb, hr]; rfl))
theorem ck_10 : Chunk ops_same2 80 79 68 10 31 (some 86) (l_same2[69]'(by rw [len_same2]; decide)) (l_same2[70]'(by rw [len_same2]; decide)) (l_same2[71]'(by rw [len_same2]; decide)) (l_same2[72]'(by rw [len_same2]; decide)) (l_same2[73]'(by rw [len_same2]; decide)) (l_same2[74]'(by rw [len_same2]; decide)) (l_same2[75]'(by rw [len_same2]; decide)) :=
  ⟨by kernel_rfl, ⟨by kernel_rfl, by kernel_rfl, by kernel_rfl⟩, ⟨by kernel_rfl, by kernel_rfl, by kernel_rfl⟩, ⟨by kernel_rfl, by kernel_rfl, by kernel_rfl⟩, ⟨by kernel_rfl, by kernel_rfl, by kernel_rfl⟩, ⟨by kernel_rfl, by kernel_rfl⟩, ⟨by kernel_rfl, by kernel_rfl, by kernel_rfl⟩, ⟨by kernel_rfl, .inl (by kernel_rfl), by kernel_rfl⟩, by decide⟩
theorem sf_10 {w0 w : World} {k5 k6 : Nat} {x y : MV} {Q : Exit → Act → World → Prop} {a : Act} (h : Fr a k5 k6 79 false) (hW : SW w0 w k5 k6 x y) (hE : End2 Q w0 k5 k6 x y false) : wpList Tryz.prog ops_same2 Q (l_same2.drop 69) a w := by
  rw [drop_seven _ _ (by rw [len_same2]; decide)]
  exact chunk_false ck_10 (by omega) (by omega) h (fun a h' => sf_11 h' hW hE)
theorem st_10 {w0 w : World} {k5 k6 : Nat} {x y : MV} {Q : Exit → Act → World → Prop} {a : Act} (h : Fr a k5 k6 79 true) (hW : SW w0 w k5 k6 x y) (hx : x.At w0) (hy : y.At w0) (hE : ∀ r, r = eqF10 x.m y.m → End2 Q w0 k5 k6 x y r) : wpList Tryz.prog ops_same2 Q (l_same2.drop 69) a w := by
  have hxw := hx.below hW.below
  have hyw := hy.below hW.below
  rw [drop_seven _ _ (by rw [len_same2]; decide)]
  refine chunk_true (i := 10) ck_10 (by omega) (by omega) h fld_10 _ _ (ld_10 hW.bx hxw.ok) (ld_10 hW.bw hyw.ok) (decide (x.m.old = y.m.old)) (fun w' => w' = w) (cmp_bin (by kernel_rfl) (by kernel_rfl) (by kernel_rfl) (beq_u16 _ _ w)) (fun w' hR a h' => ?_)
  subst hR
  rcases hb : (decide (x.m.old = y.m.old)) with _ | _
  · rw [hb] at h'
    exact sf_11 h' hW (hE _ (by unfold eqF10; rw [hb]; rfl))
  · rw [hb] at h'
    exact st_11 h' hW hx hy (fun r hr => hE r (by unfold eqF10; rw [hb, hr]; rfl))
theorem ck_9 : Chunk ops_same2 73 72 61 9 9 (some 79) (l_same2[62]'(by rw [len_same2]; decide)) (l_same2[63]'(by rw [len_same2]; decide)) (l_same2[64]'(by rw [len_same2]; decide)) (l_same2[65]'(by rw [len_same2]; decide)) (l_same2[66]'(by rw [len_same2]; decide)) (l_same2[67]'(by rw [len_same2]; decide)) (l_same2[68]'(by rw [len_same2]; decide)) :=
  ⟨by kernel_rfl, ⟨by kernel_rfl, by kernel_rfl, by kernel_rfl⟩, ⟨by kernel_rfl, by kernel_rfl, by kernel_rfl⟩, ⟨by kernel_rfl, by kernel_rfl, by kernel_rfl⟩, ⟨by kernel_rfl, by kernel_rfl, by kernel_rfl⟩, ⟨by kernel_rfl, by kernel_rfl⟩, ⟨by kernel_rfl, by kernel_rfl, by kernel_rfl⟩, ⟨by kernel_rfl, .inl (by kernel_rfl), by kernel_rfl⟩, by decide⟩
theorem sf_9 {w0 w : World} {k5 k6 : Nat} {x y : MV} {Q : Exit → Act → World → Prop} {a : Act} (h : Fr a k5 k6 72 false) (hW : SW w0 w k5 k6 x y) (hE : End2 Q w0 k5 k6 x y false) : wpList Tryz.prog ops_same2 Q (l_same2.drop 62) a w := by
  rw [drop_seven _ _ (by rw [len_same2]; decide)]
  exact chunk_false ck_9 (by omega) (by omega) h (fun a h' => sf_10 h' hW hE)
theorem st_9 {w0 w : World} {k5 k6 : Nat} {x y : MV} {Q : Exit → Act → World → Prop} {a : Act} (h : Fr a k5 k6 72 true) (hW : SW w0 w k5 k6 x y) (hx : x.At w0) (hy : y.At w0) (hE : ∀ r, r = eqF9 x.m y.m → End2 Q w0 k5 k6 x y r) : wpList Tryz.prog ops_same2 Q (l_same2.drop 62) a w := by
  have hxw := hx.below hW.below
  have hyw := hy.below hW.below
  rw [drop_seven _ _ (by rw [len_same2]; decide)]
  refine chunk_true (i := 9) ck_9 (by omega) (by omega) h fld_9 _ _ (ld_9 hW.bx hxw.ok) (ld_9 hW.bw hyw.ok) (decide (x.m.ename = y.m.ename)) (fun w' => w' = w) (cmp_bin (by kernel_rfl) (by kernel_rfl) (by kernel_rfl) (beq_str _ _ w)) (fun w' hR a h' => ?_)
  subst hR
  rcases hb : (decide (x.m.ename = y.m.ename)) with _ | _
  · rw [hb] at h'
    exact sf_10 h' hW (hE _ (by unfold eqF9; rw [hb]; rfl))
  · rw [hb] at h'
    exact st_10 h' hW hx hy (fun r hr => hE r (by unfold eqF9; rw [hb, hr]; rfl))
theorem ck_8 : Chunk ops_same2 66 65 54 8 9 (some 72) (l_same2[55]'(by rw [len_same2]; decide)) (l_same2[56]'(by rw [len_same2]; decide)) (l_same2[57]'(by rw [len_same2]; decide)) (l_same2[58]'(by rw [len_same2]; decide)) (l_same2[59]'(by rw [len_same2]; decide)) (l_same2[60]'(by rw [len_same2]; decide)) (l_same2[61]'(by rw [len_same2]; decide)) :=
  ⟨by kernel_rfl, ⟨by kernel_rfl, by kernel_rfl, by kernel_rfl⟩, ⟨by kernel_rfl, by kernel_rfl, by kernel_rfl⟩, ⟨by kernel_rfl, by kernel_rfl, by kernel_rfl⟩, ⟨by kernel_rfl, by kernel_rfl, by kernel_rfl⟩, ⟨by kernel_rfl, by kernel_rfl⟩, ⟨by kernel_rfl, by kernel_rfl, by kernel_rfl⟩, ⟨by kernel_rfl, .inl (by kernel_rfl), by kernel_rfl⟩, by decide⟩
theorem sf_8 {w0 w : World} {k5 k6 : Nat} {x y : MV} {Q : Exit → Act → World → Prop} {a : Act} (h : Fr a k5 k6 65 false) (hW : SW w0 w k5 k6 x y) (hE : End2 Q w0 k5 k6 x y false) : wpList Tryz.prog ops_same2 Q (l_same2.drop 55) a w := by
  rw [drop_seven _ _ (by rw [len_same2]; decide)]
  exact chunk_false ck_8 (by omega) (by omega) h (fun a h' => sf_9 h' hW hE)
theorem st_8 {w0 w : World} {k5 k6 : Nat} {x y : MV} {Q : Exit → Act → World → Prop} {a : Act} (h : Fr a k5 k6 65 true) (hW : SW w0 w k5 k6 x y) (hx : x.At w0) (hy : y.At w0) (hE : ∀ r, r = eqF8 x.m y.m → End2 Q w0 k5 k6 x y r) : wpList Tryz.prog ops_same2 Q (l_same2.drop 55) a w := by
  have hxw := hx.below hW.below
  have hyw := hy.below hW.below
  rw [drop_seven _ _ (by rw [len_same2]; decide)]
  refine chunk_true (i := 8) ck_8 (by omega) (by omega) h fld_8 _ _ (ld_8 hW.bx hxw.ok) (ld_8 hW.bw hyw.ok) (decide (x.m.aname = y.m.aname)) (fun w' => w' = w) (cmp_bin (by kernel_rfl) (by kernel_rfl) (by kernel_rfl) (beq_str _ _ w)) (fun w' hR a h' => ?_)
  subst hR
  rcases hb : (decide (x.m.aname = y.m.aname)) with _ | _
  · rw [hb] at h'
    exact sf_9 h' hW (hE _ (by unfold eqF8; rw [hb]; rfl))
  · rw [hb] at h'
    exact st_9 h' hW hx hy (fun r hr => hE r (by unfold eqF8; rw [hb, hr]; rfl))
theorem ck_7 : Chunk ops_same2 59 58 47 7 9 (some 65) (l_same2[48]'(by rw [len_same2]; decide)) (l_same2[49]'(by rw [len_same2]; decide)) (l_same2[50]'(by rw [len_same2]; decide)) (l_same2[51]'(by rw [len_same2]; decide)) (l_same2[52]'(by rw [len_same2]; decide)) (l_same2[53]'(by rw [len_same2]; decide)) (l_same2[54]'(by rw [len_same2]; decide)) :=
  ⟨by kernel_rfl, ⟨by kernel_rfl, by kernel_rfl, by kernel_rfl⟩, ⟨by kernel_rfl, by kernel_rfl, by kernel_rfl⟩, ⟨by kernel_rfl, by kernel_rfl, by kernel_rfl⟩, ⟨by kernel_rfl, by kernel_rfl, by kernel_rfl⟩, ⟨by kernel_rfl, by kernel_rfl⟩, ⟨by kernel_rfl, by kernel_rfl, by kernel_rfl⟩, ⟨by kernel_rfl, .inl (by kernel_rfl), by kernel_rfl⟩, by decide⟩
theorem sf_7 {w0 w : World} {k5 k6 : Nat} {x y : MV} {Q : Exit → Act → World → Prop} {a : Act} (h : Fr a k5 k6 58 false) (hW : SW w0 w k5 k6 x y) (hE : End2 Q w0 k5 k6 x y false) : wpList Tryz.prog ops_same2 Q (l_same2.drop 48) a w := by
  rw [drop_seven _ _ (by rw [len_same2]; decide)]
  exact chunk_false ck_7 (by omega) (by omega) h (fun a h' => sf_8 h' hW hE)
theorem st_7 {w0 w : World} {k5 k6 : Nat} {x y : MV} {Q : Exit → Act → World → Prop} {a : Act} (h : Fr a k5 k6 58 true) (hW : SW w0 w k5 k6 x y) (hx : x.At w0) (hy : y.At w0) (hE : ∀ r, r = eqF7 x.m y.m → End2 Q w0 k5 k6 x y r) : wpList Tryz.prog ops_same2 Q (l_same2.drop 48) a w := by
  have hxw := hx.below hW.below
  have hyw := hy.below hW.below
  rw [drop_seven _ _ (by rw [len_same2]; decide)]
  refine chunk_true (i := 7) ck_7 (by omega) (by omega) h fld_7 _ _ (ld_7 hW.bx hxw.ok) (ld_7 hW.bw hyw.ok) (decide (x.m.uname = y.m.uname)) (fun w' => w' = w) (cmp_bin (by kernel_rfl) (by kernel_rfl) (by kernel_rfl) (beq_str _ _ w)) (fun w' hR a h' => ?_)
  subst hR
  rcases hb : (decide (x.m.uname = y.m.uname)) with _ | _
  · rw [hb] at h'
    exact sf_8 h' hW (hE _ (by unfold eqF7; rw [hb]; rfl))
  · rw [hb] at h'
    exact st_8 h' hW hx hy (fun r hr => hE r (by unfold eqF7; rw [hb, hr]; rfl))
theorem ck_6 : Chunk ops_same2 52 51 40 6 32 (some 58) (l_same2[41]'(by rw [len_same2]; decide)) (l_same2[42]'(by rw [len_same2]; decide)) (l_same2[43]'(by rw [len_same2]; decide)) (l_same2[44]'(by rw [len_same2]; decide)) (l_same2[45]'(by rw [len_same2]; decide)) (l_same2[46]'(by rw [len_same2]; decide)) (l_same2[47]'(by rw [len_same2]; decide)) :=
  ⟨by kernel_rfl, ⟨by kernel_rfl, by kernel_rfl, by kernel_rfl⟩, ⟨by kernel_rfl, by kernel_rfl, by kernel_rfl⟩, ⟨by kernel_rfl, by kernel_rfl, by kernel_rfl⟩, ⟨by kernel_rfl, by kernel_rfl, by kernel_rfl⟩, ⟨by kernel_rfl, by kernel_rfl⟩, ⟨by kernel_rfl, by kernel_rfl, by kernel_rfl⟩, ⟨by kernel_rfl, .inl (by kernel_rfl), by kernel_rfl⟩, by decide⟩
theorem sf_6 {w0 w : World} {k5 k6 : Nat} {x y : MV} {Q : Exit → Act → World → Prop} {a : Act} (h : Fr a k5 k6 51 false) (hW : SW w0 w k5 k6 x y) (hE : End2 Q w0 k5 k6 x y false) : wpList Tryz.prog ops_same2 Q (l_same2.drop 41) a w := by
  rw [drop_seven _ _ (by rw [len_same2]; decide)]
  exact chunk_false ck_6 (by omega) (by omega) h (fun a h' => sf_7 h' hW hE)
theorem st_6 {w0 w : World} {k5 k6 : Nat} {x y : MV} {Q : Exit → Act → World → Prop} {a : Act} (h : Fr a k5 k6 51 true) (hW : SW w0 w k5 k6 x y) (hx : x.At w0) (hy : y.At w0) (hE : ∀ r, r = eqF6 x.m y.m → End2 Q w0 k5 k6 x y r) : wpList Tryz.prog ops_same2 Q (l_same2.drop 41) a w := by
  have hxw := hx.below hW.below
  have hyw := hy.below hW.below
  rw [drop_seven _ _ (by rw [len_same2]; decide)]
  refine chunk_true (i := 6) ck_6 (by omega) (by omega) h fld_6 _ _ (ld_6 hW.bx hxw.ok) (ld_6 hW.bw hyw.ok) (decide (x.m.new = y.m.new)) (fun w' => w' = w) (cmp_bin (by kernel_rfl) (by kernel_rfl) (by kernel_rfl) (beq_u32 _ _ w)) (fun w' hR a h' => ?_)
  subst hR
  rcases hb : (decide (x.m.new = y.m.new)) with _ | _
  · rw [hb] at h'
    exact sf_7 h' hW (hE _ (by unfold eqF6; rw [hb]; rfl))
  · rw [hb] at h'
    exact st_7 h' hW hx hy (fun r hr => hE r (by unfold eqF6; rw [hb, hr]; rfl))
theorem ck_5 : Chunk ops_same2 45 44 33 5 32 (some 51) (l_same2[34]'(by rw [len_same2]; decide)) (l_same2[35]'(by rw [len_same2]; decide)) (l_same2[36]'(by rw [len_same2]; decide)) (l_same2[37]'(by rw [len_same2]; decide)) (l_same2[38]'(by rw [len_same2]; decide)) (l_same2[39]'(by rw [len_same2]; decide)) (l_same2[40]'(by rw [len_same2]; decide)) :=
  ⟨by kernel_rfl, ⟨by kernel_rfl, by kernel_rfl, by kernel_rfl⟩, ⟨by kernel_rfl, by kernel_rfl, by kernel_rfl⟩, ⟨by kernel_rfl, by kernel_rfl, by kernel_rfl⟩, ⟨by kernel_rfl, by kernel_rfl, by kernel_rfl⟩, ⟨by kernel_rfl, by kernel_rfl⟩, ⟨by kernel_rfl, by kernel_rfl, by kernel_rfl⟩, ⟨by kernel_rfl, .inl (by kernel_rfl), by kernel_rfl⟩, by decide⟩
theorem sf_5 {w0 w : World} {k5 k6 : Nat} {x y : MV} {Q : Exit → Act → World → Prop} {a : Act} (h : Fr a k5 k6 44 false) (hW : SW w0 w k5 k6 x y) (hE : End2 Q w0 k5 k6 x y false) : wpList Tryz.prog ops_same2 Q (l_same2.drop 34) a w := by
  rw [drop_seven _ _ (by rw [len_same2]; decide)]
  exact chunk_false ck_5 (by omega) (by omega) h (fun a h' => sf_6 h' hW hE)
theorem st_5 {w0 w : World} {k5 k6 : Nat} {x y : MV} {Q : Exit → Act → World → Prop} {a : Act} (h : Fr a k5 k6 44 true) (hW : SW w0 w k5 k6 x y) (hx : x.At w0) (hy : y.At w0) (hE : ∀ r, r = eqF5 x.m y.m → End2 Q w0 k5 k6 x y r) : wpList Tryz.prog ops_same2 Q (l_same2.drop 34) a w := by
  have hxw := hx.below hW.below
  have hyw := hy.below hW.below
  rw [drop_seven _ _ (by rw [len_same2]; decide)]
  refine chunk_true (i := 5) ck_5 (by omega) (by omega) h fld_5 _ _ (ld_5 hW.bx hxw.ok) (ld_5 hW.bw hyw.ok) (decide (x.m.afid = y.m.afid)) (fun w' => w' = w) (cmp_bin (by kernel_rfl) (by kernel_rfl) (by kernel_rfl) (beq_u32 _ _ w)) (fun w' hR a h' => ?_)
  subst hR
  rcases hb : (decide (x.m.afid = y.m.afid)) with _ | _
  · rw [hb] at h'
    exact sf_6 h' hW (hE _ (by unfold eqF5; rw [hb]; rfl))
  · rw [hb] at h'
    exact st_6 h' hW hx hy (fun r hr => hE r (by unfold eqF5; rw [hb, hr]; rfl))
theorem ck_4 : Chunk ops_same2 38 37 26 4 32 (some 44) (l_same2[27]'(by rw [len_same2]; decide)) (l_same2[28]'(by rw [len_same2]; decide)) (l_same2[29]'(by rw [len_same2]; decide)) (l_same2[30]'(by rw [len_same2]; decide)) (l_same2[31]'(by rw [len_same2]; decide)) (l_same2[32]'(by rw [len_same2]; decide)) (l_same2[33]'(by rw [len_same2]; decide)) :=
  ⟨by kernel_rfl, ⟨by kernel_rfl, by kernel_rfl, by kernel_rfl⟩, ⟨by kernel_rfl, by kernel_rfl, by kernel_rfl⟩, ⟨by kernel_rfl, by kernel_rfl, by kernel_rfl⟩, ⟨by kernel_rfl, by kernel_rfl, by kernel_rfl⟩, ⟨by kernel_rfl, by kernel_rfl⟩, ⟨by kernel_rfl, by kernel_rfl, by kernel_rfl⟩, ⟨by kernel_rfl, .inl (by kernel_rfl), by kernel_rfl⟩, by decide⟩
theorem sf_4 {w0 w : World} {k5 k6 : Nat} {x y : MV} {Q : Exit → Act → World → Prop} {a : Act} (h : Fr a k5 k6 37 false) (hW : SW w0 w k5 k6 x y) (hE : End2 Q w0 k5 k6 x y false) : wpList Tryz.prog ops_same2 Q (l_same2.drop 27) a w := by
  rw [drop_seven _ _ (by rw [len_same2]; decide)]
  exact chunk_false ck_4 (by omega) (by omega) h (fun a h' => sf_5 h' hW hE)
theorem st_4 {w0 w : World} {k5 k6 : Nat} {x y : MV} {Q : Exit → Act → World → Prop} {a : Act} (h : Fr a k5 k6 37 true) (hW : SW w0 w k5 k6 x y) (hx : x.At w0) (hy : y.At w0) (hE : ∀ r, r = eqF4 x.m y.m → End2 Q w0 k5 k6 x y r) : wpList Tryz.prog ops_same2 Q (l_same2.drop 27) a w := by
  have hxw := hx.below hW.below
  have hyw := hy.below hW.below
  rw [drop_seven _ _ (by rw [len_same2]; decide)]
  refine chunk_true (i := 4) ck_4 (by omega) (by omega) h fld_4 _ _ (ld_4 hW.bx hxw.ok) (ld_4 hW.bw hyw.ok) (decide (x.m.fid = y.m.fid)) (fun w' => w' = w) (cmp_bin (by kernel_rfl) (by kernel_rfl) (by kernel_rfl) (beq_u32 _ _ w)) (fun w' hR a h' => ?_)
  subst hR
  rcases hb : (decide (x.m.fid = y.m.fid)) with _ | _
  · rw [hb] at h'
    exact sf_5 h' hW (hE _ (by unfold eqF4; rw [hb]; rfl))
  · rw [hb] at h'
    exact st_5 h' hW hx hy (fun r hr => hE r (by unfold eqF4; rw [hb, hr]; rfl))
theorem ck_3 : Chunk ops_same2 31 30 19 3 9 (some 37) (l_same2[20]'(by rw [len_same2]; decide)) (l_same2[21]'(by rw [len_same2]; decide)) (l_same2[22]'(by rw [len_same2]; decide)) (l_same2[23]'(by rw [len_same2]; decide)) (l_same2[24]'(by rw [len_same2]; decide)) (l_same2[25]'(by rw [len_same2]; decide)) (l_same2[26]'(by rw [len_same2]; decide)) :=
  ⟨by kernel_rfl, ⟨by kernel_rfl, by kernel_rfl, by kernel_rfl⟩, ⟨by kernel_rfl, by kernel_rfl, by kernel_rfl⟩, ⟨by kernel_rfl, by kernel_rfl, by kernel_rfl⟩, ⟨by kernel_rfl, by kernel_rfl, by kernel_rfl⟩, ⟨by kernel_rfl, by kernel_rfl⟩, ⟨by kernel_rfl, by kernel_rfl, by kernel_rfl⟩, ⟨by kernel_rfl, .inl (by kernel_rfl), by kernel_rfl⟩, by decide⟩
theorem sf_3 {w0 w : World} {k5 k6 : Nat} {x y : MV} {Q : Exit → Act → World → Prop} {a : Act} (h : Fr a k5 k6 30 false) (hW : SW w0 w k5 k6 x y) (hE : End2 Q w0 k5 k6 x y false) : wpList Tryz.prog ops_same2 Q (l_same2.drop 20) a w := by
  rw [drop_seven _ _ (by rw [len_same2]; decide)]
  exact chunk_false ck_3 (by omega) (by omega) h (fun a h' => sf_4 h' hW hE)
theorem st_3 {w0 w : World} {k5 k6 : Nat} {x y : MV} {Q : Exit → Act → World → Prop} {a : Act} (h : Fr a k5 k6 30 true) (hW : SW w0 w k5 k6 x y) (hx : x.At w0) (hy : y.At w0) (hE : ∀ r, r = eqF3 x.m y.m → End2 Q w0 k5 k6 x y r) : wpList Tryz.prog ops_same2 Q (l_same2.drop 20) a w := by
  have hxw := hx.below hW.below
  have hyw := hy.below hW.below
  rw [drop_seven _ _ (by rw [len_same2]; decide)]
  refine chunk_true (i := 3) ck_3 (by omega) (by omega) h fld_3 _ _ (ld_3 hW.bx hxw.ok) (ld_3 hW.bw hyw.ok) (decide (x.m.version = y.m.version)) (fun w' => w' = w) (cmp_bin (by kernel_rfl) (by kernel_rfl) (by kernel_rfl) (beq_str _ _ w)) (fun w' hR a h' => ?_)
  subst hR
  rcases hb : (decide (x.m.version = y.m.version)) with _ | _
  · rw [hb] at h'
    exact sf_4 h' hW (hE _ (by unfold eqF3; rw [hb]; rfl))
  · rw [hb] at h'
    exact st_4 h' hW hx hy (fun r hr => hE r (by unfold eqF3; rw [hb, hr]; rfl))
theorem ck_2 : Chunk ops_same2 24 23 12 2 32 (some 30) (l_same2[13]'(by rw [len_same2]; decide)) (l_same2[14]'(by rw [len_same2]; decide)) (l_same2[15]'(by rw [len_same2]; decide)) (l_same2[16]'(by rw [len_same2]; decide)) (l_same2[17]'(by rw [len_same2]; decide)) (l_same2[18]'(by rw [len_same2]; decide)) (l_same2[19]'(by rw [len_same2]; decide)) :=
  ⟨by kernel_rfl, ⟨by kernel_rfl, by kernel_rfl, by kernel_rfl⟩, ⟨by kernel_rfl, by kernel_rfl, by kernel_rfl⟩, ⟨by kernel_rfl, by kernel_rfl, by kernel_rfl⟩, ⟨by kernel_rfl, by kernel_rfl, by kernel_rfl⟩, ⟨by kernel_rfl, by kernel_rfl⟩, ⟨by kernel_rfl, by kernel_rfl, by kernel_rfl⟩, ⟨by kernel_rfl, .inl (by kernel_rfl), by kernel_rfl⟩, by decide⟩
theorem sf_2 {w0 w : World} {k5 k6 : Nat} {x y : MV} {Q : Exit → Act → World → Prop} {a : Act} (h : Fr a k5 k6 23 false) (hW : SW w0 w k5 k6 x y) (hE : End2 Q w0 k5 k6 x y false) : wpList Tryz.prog ops_same2 Q (l_same2.drop 13) a w := by
  rw [drop_seven _ _ (by rw [len_same2]; decide)]
  exact chunk_false ck_2 (by omega) (by omega) h (fun a h' => sf_3 h' hW hE)
theorem st_2 {w0 w : World} {k5 k6 : Nat} {x y : MV} {Q : Exit → Act → World → Prop} {a : Act} (h : Fr a k5 k6 23 true) (hW : SW w0 w k5 k6 x y) (hx : x.At w0) (hy : y.At w0) (hE : ∀ r, r = eqF2 x.m y.m → End2 Q w0 k5 k6 x y r) : wpList Tryz.prog ops_same2 Q (l_same2.drop 13) a w := by
  have hxw := hx.below hW.below
  have hyw := hy.below hW.below
  rw [drop_seven _ _ (by rw [len_same2]; decide)]
  refine chunk_true (i := 2) ck_2 (by omega) (by omega) h fld_2 _ _ (ld_2 hW.bx hxw.ok) (ld_2 hW.bw hyw.ok) (decide (x.m.msize = y.m.msize)) (fun w' => w' = w) (cmp_bin (by kernel_rfl) (by kernel_rfl) (by kernel_rfl) (beq_u32 _ _ w)) (fun w' hR a h' => ?_)
  subst hR
  rcases hb : (decide (x.m.msize = y.m.msize)) with _ | _
  · rw [hb] at h'
    exact sf_3 h' hW (hE _ (by unfold eqF2; rw [hb]; rfl))
  · rw [hb] at h'
    exact st_3 h' hW hx hy (fun r hr => hE r (by unfold eqF2; rw [hb, hr]; rfl))
theorem ck_1 : Chunk ops_same2 17 16 5 1 31 (some 23) (l_same2[6]'(by rw [len_same2]; decide)) (l_same2[7]'(by rw [len_same2]; decide)) (l_same2[8]'(by rw [len_same2]; decide)) (l_same2[9]'(by rw [len_same2]; decide)) (l_same2[10]'(by rw [len_same2]; decide)) (l_same2[11]'(by rw [len_same2]; decide)) (l_same2[12]'(by rw [len_same2]; decide)) :=
  ⟨by kernel_rfl, ⟨by kernel_rfl, by kernel_rfl, by kernel_rfl⟩, ⟨by kernel_rfl, by kernel_rfl, by kernel_rfl⟩, ⟨by kernel_rfl, by kernel_rfl, by kernel_rfl⟩, ⟨by kernel_rfl, by kernel_rfl, by kernel_rfl⟩, ⟨by kernel_rfl, by kernel_rfl⟩, ⟨by kernel_rfl, by kernel_rfl, by kernel_rfl⟩, ⟨by kernel_rfl, .inl (by kernel_rfl), by kernel_rfl⟩, by decide⟩
theorem sf_1 {w0 w : World} {k5 k6 : Nat} {x y : MV} {Q : Exit → Act → World → Prop} {a : Act} (h : Fr a k5 k6 16 false) (hW : SW w0 w k5 k6 x y) (hE : End2 Q w0 k5 k6 x y false) : wpList Tryz.prog ops_same2 Q (l_same2.drop 6) a w := by
  rw [drop_seven _ _ (by rw [len_same2]; decide)]
  exact chunk_false ck_1 (by omega) (by omega) h (fun a h' => sf_2 h' hW hE)
theorem st_1 {w0 w : World} {k5 k6 : Nat} {x y : MV} {Q : Exit → Act → World → Prop} {a : Act} (h : Fr a k5 k6 16 true) (hW : SW w0 w k5 k6 x y) (hx : x.At w0) (hy : y.At w0) (hE : ∀ r, r = eqF1 x.m y.m → End2 Q w0 k5 k6 x y r) : wpList Tryz.prog ops_same2 Q (l_same2.drop 6) a w := by
  have hxw := hx.below hW.below
  have hyw := hy.below hW.below
  rw [drop_seven _ _ (by rw [len_same2]; decide)]
  refine chunk_true (i := 1) ck_1 (by omega) (by omega) h fld_1 _ _ (ld_1 hW.bx hxw.ok) (ld_1 hW.bw hyw.ok) (decide (x.m.tag = y.m.tag)) (fun w' => w' = w) (cmp_bin (by kernel_rfl) (by kernel_rfl) (by kernel_rfl) (beq_u16 _ _ w)) (fun w' hR a h' => ?_)
  subst hR
  rcases hb : (decide (x.m.tag = y.m.tag)) with _ | _
  · rw [hb] at h'
    exact sf_2 h' hW (hE _ (by unfold eqF1; rw [hb]; rfl))
  · rw [hb] at h'
    exact st_2 h' hW hx hy (fun r hr => hE r (by unfold eqF1; rw [hb, hr]; rfl))
end Go.Proofs.YtcbglcebdkpcfaaGreat
