/- A message as the reference's (Of of layer 5). Conditions: numbers in their types. -/
import Derived.Test.YtcbglcebdkpcfaaGreatCtA31
import Derived.Test.YtcbglcebdkpcfaaGreatCeA27
import Derived.BigGuard
namespace Go.Proofs.YtcbglcebdkpcfaaGreat
open Go.RowKit
set_option maxRecDepth 100000
set_option linter.unusedVariables false

theorem elemRQ : ElemOk Tryz.prog 65 66 3 16 := elemOk_of Tryz.underlying65 (by kernel_rfl : (Tryz.prog.info? 66).map (fun i => (i.zero, i.size, i.bytes)) = some (some (.agg #[.int .u8 0, .int .u32 0, .int .u64 0]), 3, 16)) rfl (by decide)
theorem of5S {a : MV} {X : World} {k : Nat} {aD aN : Option Addr} {lD cD lN cN : Nat} (h : X.heap[k]? = some (.cells a.cells 41 (0, 0))) (hn : a.n = .slice aN lN cN) (hd : a.d = .slice aD lD cD) (hb : BytesAt X a.d a.m.data) : X.cell? ⟨k, 0, none⟩ = some (.int .u8 (a.m.ty : Int)) ∧ X.cell? ⟨k, 1, none⟩ = some (.int .u16 (a.m.tag : Int)) ∧ X.cell? ⟨k, 2, none⟩ = some (.int .u32 (a.m.msize : Int)) ∧ X.cell? ⟨k, 3, none⟩ = some (.string a.m.version) ∧ X.cell? ⟨k, 4, none⟩ = some (.int .u32 (a.m.fid : Int)) ∧ X.cell? ⟨k, 5, none⟩ = some (.int .u32 (a.m.afid : Int)) ∧ X.cell? ⟨k, 6, none⟩ = some (.int .u32 (a.m.new : Int)) ∧ X.cell? ⟨k, 7, none⟩ = some (.string a.m.uname) ∧ X.cell? ⟨k, 8, none⟩ = some (.string a.m.aname) ∧ X.cell? ⟨k, 9, none⟩ = some (.string a.m.ename) ∧ X.cell? ⟨k, 10, none⟩ = some (.int .u16 (a.m.old : Int)) ∧ X.cell? ⟨k, 11, none⟩ = some (.slice aN lN cN) ∧ X.cell? ⟨k, 13, none⟩ = some (.int .u8 (a.m.qid.t : Int)) ∧ X.cell? ⟨k, 14, none⟩ = some (.int .u32 (a.m.qid.v : Int)) ∧ X.cell? ⟨k, 15, none⟩ = some (.int .u64 (a.m.qid.p : Int)) ∧ X.cell? ⟨k, 16, none⟩ = some (.int .u32 (a.m.iounit : Int)) ∧ X.cell? ⟨k, 17, none⟩ = some (.int .u8 (a.m.mode : Int)) ∧ X.cell? ⟨k, 18, none⟩ = some (.int .u32 (a.m.perm : Int)) ∧ X.cell? ⟨k, 19, none⟩ = some (.string a.m.name) ∧ X.cell? ⟨k, 20, none⟩ = some (.int .u64 (a.m.offset : Int)) ∧ X.cell? ⟨k, 21, none⟩ = some (.int .u32 (a.m.count : Int)) ∧ X.cell? ⟨k, 22, none⟩ = some (.slice aD lD cD) ∧ X.cell? ⟨k, 23, none⟩ = some (.int .u16 (a.m.stat.kind : Int)) ∧ X.cell? ⟨k, 24, none⟩ = some (.int .u32 (a.m.stat.dev : Int)) ∧ X.cell? ⟨k, 25, none⟩ = some (.int .u8 (a.m.stat.qt : Int)) ∧ X.cell? ⟨k, 26, none⟩ = some (.int .u32 (a.m.stat.qv : Int)) ∧ X.cell? ⟨k, 27, none⟩ = some (.int .u64 (a.m.stat.qp : Int)) ∧ X.cell? ⟨k, 28, none⟩ = some (.int .u32 (a.m.stat.mode : Int)) ∧ X.cell? ⟨k, 29, none⟩ = some (.int .u32 (a.m.stat.atm : Int)) ∧ X.cell? ⟨k, 30, none⟩ = some (.int .u32 (a.m.stat.mtm : Int)) ∧ X.cell? ⟨k, 31, none⟩ = some (.int .u64 (a.m.stat.len : Int)) ∧ X.cell? ⟨k, 32, none⟩ = some (.string a.m.stat.name) ∧ X.cell? ⟨k, 33, none⟩ = some (.string a.m.stat.uid) ∧ X.cell? ⟨k, 34, none⟩ = some (.string a.m.stat.gid) ∧ X.cell? ⟨k, 35, none⟩ = some (.string a.m.stat.muid) ∧ (convert 29 9 (.slice aD lD cD)).run Tryz.prog X = .ok (.string (strL a.m.data)) X := by
  have hv := conv_string X _ _ hb
  rw [hd] at hv
  have h22 := block_cell h 22
  rw [show a.cells[22]? = some (.slice aD lD cD) by rw [← hd]; rfl] at h22
  have h11 := block_cell h 11
  rw [show a.cells[11]? = some (.slice aN lN cN) by rw [← hn]; rfl] at h11
  exact ⟨block_cell h 0, block_cell h 1, block_cell h 2, block_cell h 3, block_cell h 4, block_cell h 5, block_cell h 6, block_cell h 7, block_cell h 8, block_cell h 9, block_cell h 10, h11, block_cell h 13, block_cell h 14, block_cell h 15, block_cell h 16, block_cell h 17, block_cell h 18, block_cell h 19, block_cell h 20, block_cell h 21, h22, block_cell h 23, block_cell h 24, block_cell h 25, block_cell h 26, block_cell h 27, block_cell h 28, block_cell h 29, block_cell h 30, block_cell h 31, block_cell h 32, block_cell h 33, block_cell h 34, block_cell h 35, hv⟩
structure OfSt (w W : World) (a : MV) (vN : Value) (k3 : Nat) (qv : Value) : Prop where
  one : W.heap[w.heap.size]? = some (.cells a.cells 41 (0, 0))
  two : W.heap[w.heap.size + 1]? = some (.cells zeroR 70 (0, 0))
  row : W.heap[k3]? = some (.cells (a.m.rcells vN qv (strL a.m.data)) 70 (0, 0))
  hk : w.heap.size + 2 ≤ k3
  bel : Below w.heap.size w W
theorem OfSt.first {w W wa : World} {a : MV} {vN : Value} {k3 : Nat} (h1 : W.heap[w.heap.size]? = some (.cells a.cells 41 (0, 0))) (h2 : W.heap[w.heap.size + 1]? = some (.cells zeroR 70 (0, 0))) (hb0 : Below w.heap.size w W) (hb : Below W.heap.size W wa) (h3 : wa.heap[k3]? = some (.cells zeroR 70 (0, 0))) (hk : W.heap.size ≤ k3) :
    OfSt w (wa.setRow k3 (a.m.rcells vN (.slice none 0 0) (strL a.m.data))) a vN k3 (.slice none 0 0) :=
  have hbb := below_setRow hb hk (a.m.rcells vN (.slice none 0 0) (strL a.m.data))
  have hl := lt_of_block h2
  ⟨(hbb.block _ (lt_of_block h1)).trans h1, (hbb.block _ hl).trans h2, setRow_heap _ _ _ _ _ _ h3, by omega, sn hb0 hbb⟩
theorem OfSt.up {w W W2 : World} {a : MV} {vN : Value} {k3 : Nat} {qv : Value} (h : OfSt w W a vN k3 qv) (hb : Below (k3 + 1) W W2) : OfSt w W2 a vN k3 qv :=
  have hk := h.hk
  ⟨(hb.block _ (by omega)).trans h.one, (hb.block _ (by omega)).trans h.two, (hb.block _ (by omega)).trans h.row, hk, h.bel.trans (hb.mono (by omega))⟩
theorem OfSt.set {w W : World} {a : MV} {vN : Value} {k3 : Nat} {qv : Value} (h : OfSt w W a vN k3 qv) (v : Value) : OfSt w (W.setCell ⟨k3, 12, none⟩ v) a vN k3 v :=
  have hk := h.hk
  ⟨(block_set_other (p := ⟨k3, 12, none⟩) (u := v) (by show _ ≠ _; simp only []; omega)).trans h.one, (block_set_other (p := ⟨k3, 12, none⟩) (u := v) (by show _ ≠ _; simp only []; omega)).trans h.two, block_set h.row 12 v, hk, h.bel.setCell (p := ⟨k3, 12, none⟩) (by show _ ≤ k3; omega) _⟩
theorem run_build_op {P : Program} (X : World) (o : Oper) (ev : Operand → Value) (t : TypeId) (parts : Array (Nat × Operand)) (cells : Array Value) (ho : o.op = .build t parts) (hf : P.built t (parts.map fun (i, x) => (i, ev x)).toList = some cells) : (execOp ev o).run P X = .ok (.value (.agg cells)) X := by
  unfold execOp
  simp only [ho, Sem.run_bind, run_build X t _ cells hf, Result.andThen_ok, Sem.run_pure]
theorem of5K {a : MV} {w W X : World} {aD aN : Option Addr} {lD cD lN cN : Nat} (h : W.heap[w.heap.size]? = some (.cells a.cells 41 (0, 0))) (ha : a.At W) (hn : a.n = .slice aN lN cN) (hd : a.d = .slice aD lD cD) (hb : Below W.heap.size W X) : X.cell? ⟨w.heap.size, 0, none⟩ = some (.int .u8 (a.m.ty : Int)) ∧ X.cell? ⟨w.heap.size, 1, none⟩ = some (.int .u16 (a.m.tag : Int)) ∧ X.cell? ⟨w.heap.size, 2, none⟩ = some (.int .u32 (a.m.msize : Int)) ∧ X.cell? ⟨w.heap.size, 3, none⟩ = some (.string a.m.version) ∧ X.cell? ⟨w.heap.size, 4, none⟩ = some (.int .u32 (a.m.fid : Int)) ∧ X.cell? ⟨w.heap.size, 5, none⟩ = some (.int .u32 (a.m.afid : Int)) ∧ X.cell? ⟨w.heap.size, 6, none⟩ = some (.int .u32 (a.m.new : Int)) ∧ X.cell? ⟨w.heap.size, 7, none⟩ = some (.string a.m.uname) ∧ X.cell? ⟨w.heap.size, 8, none⟩ = some (.string a.m.aname) ∧ X.cell? ⟨w.heap.size, 9, none⟩ = some (.string a.m.ename) ∧ X.cell? ⟨w.heap.size, 10, none⟩ = some (.int .u16 (a.m.old : Int)) ∧ X.cell? ⟨w.heap.size, 11, none⟩ = some (.slice aN lN cN) ∧ X.cell? ⟨w.heap.size, 13, none⟩ = some (.int .u8 (a.m.qid.t : Int)) ∧ X.cell? ⟨w.heap.size, 14, none⟩ = some (.int .u32 (a.m.qid.v : Int)) ∧ X.cell? ⟨w.heap.size, 15, none⟩ = some (.int .u64 (a.m.qid.p : Int)) ∧ X.cell? ⟨w.heap.size, 16, none⟩ = some (.int .u32 (a.m.iounit : Int)) ∧ X.cell? ⟨w.heap.size, 17, none⟩ = some (.int .u8 (a.m.mode : Int)) ∧ X.cell? ⟨w.heap.size, 18, none⟩ = some (.int .u32 (a.m.perm : Int)) ∧ X.cell? ⟨w.heap.size, 19, none⟩ = some (.string a.m.name) ∧ X.cell? ⟨w.heap.size, 20, none⟩ = some (.int .u64 (a.m.offset : Int)) ∧ X.cell? ⟨w.heap.size, 21, none⟩ = some (.int .u32 (a.m.count : Int)) ∧ X.cell? ⟨w.heap.size, 22, none⟩ = some (.slice aD lD cD) ∧ X.cell? ⟨w.heap.size, 23, none⟩ = some (.int .u16 (a.m.stat.kind : Int)) ∧ X.cell? ⟨w.heap.size, 24, none⟩ = some (.int .u32 (a.m.stat.dev : Int)) ∧ X.cell? ⟨w.heap.size, 25, none⟩ = some (.int .u8 (a.m.stat.qt : Int)) ∧ X.cell? ⟨w.heap.size, 26, none⟩ = some (.int .u32 (a.m.stat.qv : Int)) ∧ X.cell? ⟨w.heap.size, 27, none⟩ = some (.int .u64 (a.m.stat.qp : Int)) ∧ X.cell? ⟨w.heap.size, 28, none⟩ = some (.int .u32 (a.m.stat.mode : Int)) ∧ X.cell? ⟨w.heap.size, 29, none⟩ = some (.int .u32 (a.m.stat.atm : Int)) ∧ X.cell? ⟨w.heap.size, 30, none⟩ = some (.int .u32 (a.m.stat.mtm : Int)) ∧ X.cell? ⟨w.heap.size, 31, none⟩ = some (.int .u64 (a.m.stat.len : Int)) ∧ X.cell? ⟨w.heap.size, 32, none⟩ = some (.string a.m.stat.name) ∧ X.cell? ⟨w.heap.size, 33, none⟩ = some (.string a.m.stat.uid) ∧ X.cell? ⟨w.heap.size, 34, none⟩ = some (.string a.m.stat.gid) ∧ X.cell? ⟨w.heap.size, 35, none⟩ = some (.string a.m.stat.muid) ∧ (convert 29 9 (.slice aD lD cD)).run Tryz.prog X = .ok (.string (strL a.m.data)) X :=
  of5S ((hb.block _ (lt_of_block h)).trans h) hn hd (ha.2.2.below hb)
def Of5Post (w : World) (a : MV) (e : Ending) (w' : World) : Prop :=
  ∃ vQ, e = .returned (.agg (a.m.rcells a.n vQ (strL a.m.data))) ∧ QidsAt w' vQ a.m.qids ∧ Below w.heap.size w w'
theorem qids_succ {Q : List QidV} {k : Nat} (h : k < Q.length) : (Q.take (k + 1)).flatMap (fun q => q.cells.toList) = (Q.take k).flatMap (fun q => q.cells.toList) ++ Q[k].cells.toList := by
  rw [List.take_succ_eq_append_getElem h, List.flatMap_append]
  simp

set_option maxHeartbeats 6400000 in
theorem of5_any (a : MV) (w : World) (ha : a.At w) (hl : a.m.qids.length ≤ 1000) :
    Calls Tryz.prog 22 #[.agg a.cells] w (Of5Post w a) := by
  obtain ⟨aQ, cQ, eQ, gQ, gQ'⟩ := ha.2.1.form
  obtain ⟨aN, cN, eN, _, _⟩ := ha.1.form
  obtain ⟨aD, cD, eD, _, _, _⟩ := ha.2.2.form
  obtain ⟨q, hq⟩ : ∃ q, q = a.m.qids.length := ⟨_, rfl⟩
  obtain ⟨lD, hlD⟩ : ∃ l, l = a.m.data.length := ⟨_, rfl⟩
  obtain ⟨lN, hlN⟩ : ∃ l, l = a.m.names.length := ⟨_, rfl⟩
  rw [← hlN] at eN
  replace hlN := hid hlN
  rw [← hq] at eQ gQ hl
  rw [← hlD] at eD
  replace hlD := hid hlD
  unfold maxLen at gQ'
  replace eN := hid eN
  replace eQ := hid eQ
  replace eD := hid eD
  obtain ⟨W, hW⟩ : ∃ W, W = (w.alloc (.cells a.cells 41)).alloc (.cells zeroR 70) := ⟨_, rfl⟩
  have hx := hid (show W.heap[w.heap.size]? = some (.cells a.cells 41 (0, 0)) by rw [hW, heap_alloc_old _ _ (by simp), heap_alloc_new])
  have hy := hid (show W.heap[w.heap.size + 1]? = some (.cells zeroR 70 (0, 0)) by rw [hW]; exact heap2 _ _ _)
  have hb0 := hid (show Below w.heap.size w W by rw [hW]; exact ((Below.refl w.heap.size w).alloc (Nat.le_refl _) _).alloc (by simp) _)
  have haW := hid (ha.below hb0.out)
  have hzW : w.heap.size + 1 < W.heap.size := lt_of_block hy.out
  have ha0 := hid ha
  have hof := of_any a.m.stat
  rw [zeroR_lit] at hW
  simp only [Stat.cells] at hof
  simp only [MV.cells, M.cells] at hW ⊢
  replace hof := hid hof
  clear ha
  go_enter Tryz.func22, Tryz.ntmps22
  go_upto_region 1 with (rw [← hW]; replace hW := hid hW)
  try (rw [← hW]; replace hW := hid hW)
  go_cut [3] (fun s3 wx => ∃ k3 : Nat, s3 = .pointer (some ⟨k3, 0, none⟩) ∧ Hid (OfSt w wx a (.slice aN lN cN) k3 (.slice none 0 0)))
  case first =>
    refine wp_region_held_drew (S := fun w' => w'.cell? ⟨w.heap.size, 0, none⟩ = some (.int .u8 (a.m.ty : Int)) ∧ w'.cell? ⟨w.heap.size, 1, none⟩ = some (.int .u16 (a.m.tag : Int)) ∧ w'.cell? ⟨w.heap.size, 2, none⟩ = some (.int .u32 (a.m.msize : Int)) ∧ w'.cell? ⟨w.heap.size, 3, none⟩ = some (.string a.m.version) ∧ w'.cell? ⟨w.heap.size, 4, none⟩ = some (.int .u32 (a.m.fid : Int)) ∧ w'.cell? ⟨w.heap.size, 5, none⟩ = some (.int .u32 (a.m.afid : Int)) ∧ w'.cell? ⟨w.heap.size, 6, none⟩ = some (.int .u32 (a.m.new : Int)) ∧ w'.cell? ⟨w.heap.size, 7, none⟩ = some (.string a.m.uname) ∧ w'.cell? ⟨w.heap.size, 8, none⟩ = some (.string a.m.aname) ∧ w'.cell? ⟨w.heap.size, 9, none⟩ = some (.string a.m.ename) ∧ w'.cell? ⟨w.heap.size, 10, none⟩ = some (.int .u16 (a.m.old : Int)) ∧ w'.cell? ⟨w.heap.size, 11, none⟩ = some (.slice aN lN cN) ∧ w'.cell? ⟨w.heap.size, 13, none⟩ = some (.int .u8 (a.m.qid.t : Int)) ∧ w'.cell? ⟨w.heap.size, 14, none⟩ = some (.int .u32 (a.m.qid.v : Int)) ∧ w'.cell? ⟨w.heap.size, 15, none⟩ = some (.int .u64 (a.m.qid.p : Int)) ∧ w'.cell? ⟨w.heap.size, 16, none⟩ = some (.int .u32 (a.m.iounit : Int)) ∧ w'.cell? ⟨w.heap.size, 17, none⟩ = some (.int .u8 (a.m.mode : Int)) ∧ w'.cell? ⟨w.heap.size, 18, none⟩ = some (.int .u32 (a.m.perm : Int)) ∧ w'.cell? ⟨w.heap.size, 19, none⟩ = some (.string a.m.name) ∧ w'.cell? ⟨w.heap.size, 20, none⟩ = some (.int .u64 (a.m.offset : Int)) ∧ w'.cell? ⟨w.heap.size, 21, none⟩ = some (.int .u32 (a.m.count : Int)) ∧ w'.cell? ⟨w.heap.size, 22, none⟩ = some (.slice aD lD cD) ∧ w'.cell? ⟨w.heap.size, 23, none⟩ = some (.int .u16 (a.m.stat.kind : Int)) ∧ w'.cell? ⟨w.heap.size, 24, none⟩ = some (.int .u32 (a.m.stat.dev : Int)) ∧ w'.cell? ⟨w.heap.size, 25, none⟩ = some (.int .u8 (a.m.stat.qt : Int)) ∧ w'.cell? ⟨w.heap.size, 26, none⟩ = some (.int .u32 (a.m.stat.qv : Int)) ∧ w'.cell? ⟨w.heap.size, 27, none⟩ = some (.int .u64 (a.m.stat.qp : Int)) ∧ w'.cell? ⟨w.heap.size, 28, none⟩ = some (.int .u32 (a.m.stat.mode : Int)) ∧ w'.cell? ⟨w.heap.size, 29, none⟩ = some (.int .u32 (a.m.stat.atm : Int)) ∧ w'.cell? ⟨w.heap.size, 30, none⟩ = some (.int .u32 (a.m.stat.mtm : Int)) ∧ w'.cell? ⟨w.heap.size, 31, none⟩ = some (.int .u64 (a.m.stat.len : Int)) ∧ w'.cell? ⟨w.heap.size, 32, none⟩ = some (.string a.m.stat.name) ∧ w'.cell? ⟨w.heap.size, 33, none⟩ = some (.string a.m.stat.uid) ∧ w'.cell? ⟨w.heap.size, 34, none⟩ = some (.string a.m.stat.gid) ∧ w'.cell? ⟨w.heap.size, 35, none⟩ = some (.string a.m.stat.muid) ∧ (convert 29 9 (.slice aD lD cD)).run Tryz.prog w' = .ok (.string (strL a.m.data)) w') (by kernel_rfl) ?hS (fun hHeld => ?_)
    case hS => exact of5K hx.out haW.out eN.out eD.out (Below.refl _ _).drew
    have hB := hid (show Below W.heap.size W W.drew from (Below.refl _ _).drew)
    generalize hX : W.drew = X0 at hB hHeld ⊢
    replace hX := hid hX
    refine wpAnyH_take (i := 0) (v := ?dv1) rfl (by kernel_rfl) (by kernel_rfl) (by kernel_rfl) (fun _ _ _ h => h) (Or.inl ⟨by kernel_rfl, ?dy1⟩) (by assumption) ?_
    case dy1 => (intro w hSw; (try dsimp only at hSw); go_simp; try with_reducible rfl)
    try simp only [Act.put, List.getElem_toArray, List.getElem_cons_zero, List.setIfInBounds_toArray, List.set_cons_zero, List.set_cons_succ]
    refine wpAnyH_take (i := 1) (v := ?dv2) rfl (by kernel_rfl) (by kernel_rfl) (by kernel_rfl) (fun _ _ _ h => h) (Or.inl ⟨by kernel_rfl, ?dy2⟩) (by assumption) ?_
    case dy2 => (intro w hSw; (try dsimp only at hSw); go_simp; try with_reducible rfl)
    try simp only [Act.put, List.getElem_toArray, List.getElem_cons_succ, List.getElem_cons_zero, List.setIfInBounds_toArray, List.set_cons_zero, List.set_cons_succ]
    refine wpAnyH_take (i := 2) (v := ?dv3) rfl (by kernel_rfl) (by kernel_rfl) (by kernel_rfl) (fun _ _ _ h => h) (Or.inl ⟨by kernel_rfl, ?dy3⟩) (by assumption) ?_
    case dy3 => (intro w hSw; (try dsimp only at hSw); go_simp; try with_reducible rfl)
    try simp only [Act.put, List.getElem_toArray, List.getElem_cons_succ, List.getElem_cons_zero, List.setIfInBounds_toArray, List.set_cons_zero, List.set_cons_succ]
    refine wpAnyH_take (i := 3) (v := ?dv4) rfl (by kernel_rfl) (by kernel_rfl) (by kernel_rfl) (fun _ _ _ h => h) (Or.inl ⟨by kernel_rfl, ?dy4⟩) (by assumption) ?_
    case dy4 => (intro w hSw; (try dsimp only at hSw); go_simp; try with_reducible rfl)
    try simp only [Act.put, List.getElem_toArray, List.getElem_cons_succ, List.getElem_cons_zero, List.setIfInBounds_toArray, List.set_cons_zero, List.set_cons_succ]
    refine wpAnyH_take (i := 4) (v := ?dv5) rfl (by kernel_rfl) (by kernel_rfl) (by kernel_rfl) (fun _ _ _ h => h) (Or.inl ⟨by kernel_rfl, ?dy5⟩) (by assumption) ?_
    case dy5 => (intro w hSw; (try dsimp only at hSw); go_simp; try with_reducible rfl)
    try simp only [Act.put, List.getElem_toArray, List.getElem_cons_succ, List.getElem_cons_zero, List.setIfInBounds_toArray, List.set_cons_zero, List.set_cons_succ]
    refine wpAnyH_take (i := 5) (v := ?dv6) rfl (by kernel_rfl) (by kernel_rfl) (by kernel_rfl) (fun _ _ _ h => h) (Or.inl ⟨by kernel_rfl, ?dy6⟩) (by assumption) ?_
    case dy6 => (intro w hSw; (try dsimp only at hSw); go_simp; try with_reducible rfl)
    try simp only [Act.put, List.getElem_toArray, List.getElem_cons_succ, List.getElem_cons_zero, List.setIfInBounds_toArray, List.set_cons_zero, List.set_cons_succ]
    refine wpAnyH_take (i := 6) (v := ?dv7) rfl (by kernel_rfl) (by kernel_rfl) (by kernel_rfl) (fun _ _ _ h => h) (Or.inl ⟨by kernel_rfl, ?dy7⟩) (by assumption) ?_
    case dy7 => (intro w hSw; (try dsimp only at hSw); go_simp; try with_reducible rfl)
    try simp only [Act.put, List.getElem_toArray, List.getElem_cons_succ, List.getElem_cons_zero, List.setIfInBounds_toArray, List.set_cons_zero, List.set_cons_succ]
    refine wpAnyH_take (i := 7) (v := ?dv8) rfl (by kernel_rfl) (by kernel_rfl) (by kernel_rfl) (fun _ _ _ h => h) (Or.inl ⟨by kernel_rfl, ?dy8⟩) (by assumption) ?_
    case dy8 => (intro w hSw; (try dsimp only at hSw); go_simp; try with_reducible rfl)
    try simp only [Act.put, List.getElem_toArray, List.getElem_cons_succ, List.getElem_cons_zero, List.setIfInBounds_toArray, List.set_cons_zero, List.set_cons_succ]
    refine wpAnyH_take (i := 8) (v := ?dv9) rfl (by kernel_rfl) (by kernel_rfl) (by kernel_rfl) (fun _ _ _ h => h) (Or.inl ⟨by kernel_rfl, ?dy9⟩) (by assumption) ?_
    case dy9 => (intro w hSw; (try dsimp only at hSw); go_simp; try with_reducible rfl)
    try simp only [Act.put, List.getElem_toArray, List.getElem_cons_succ, List.getElem_cons_zero, List.setIfInBounds_toArray, List.set_cons_zero, List.set_cons_succ]
    refine wpAnyH_take (i := 9) (v := ?dv10) rfl (by kernel_rfl) (by kernel_rfl) (by kernel_rfl) (fun _ _ _ h => h) (Or.inl ⟨by kernel_rfl, ?dy10⟩) (by assumption) ?_
    case dy10 => (intro w hSw; (try dsimp only at hSw); go_simp; try with_reducible rfl)
    try simp only [Act.put, List.getElem_toArray, List.getElem_cons_succ, List.getElem_cons_zero, List.setIfInBounds_toArray, List.set_cons_zero, List.set_cons_succ]
    refine wpAnyH_take (i := 10) (v := ?dv11) rfl (by kernel_rfl) (by kernel_rfl) (by kernel_rfl) (fun _ _ _ h => h) (Or.inl ⟨by kernel_rfl, ?dy11⟩) (by assumption) ?_
    case dy11 => (intro w hSw; (try dsimp only at hSw); go_simp; try with_reducible rfl)
    try simp only [Act.put, List.getElem_toArray, List.getElem_cons_succ, List.getElem_cons_zero, List.setIfInBounds_toArray, List.set_cons_zero, List.set_cons_succ]
    refine wpAnyH_take (i := 11) (v := ?dv12) rfl (by kernel_rfl) (by kernel_rfl) (by kernel_rfl) (fun _ _ _ h => h) (Or.inl ⟨by kernel_rfl, ?dy12⟩) (by assumption) ?_
    case dy12 => (intro w hSw; (try dsimp only at hSw); go_simp; try with_reducible rfl)
    try simp only [Act.put, List.getElem_toArray, List.getElem_cons_succ, List.getElem_cons_zero, List.setIfInBounds_toArray, List.set_cons_zero, List.set_cons_succ]
    refine wpAnyH_take (i := 12) (v := ?dv13) rfl (by kernel_rfl) (by kernel_rfl) (by kernel_rfl) (fun _ _ _ h => h) (Or.inl ⟨by kernel_rfl, ?dy13⟩) (by assumption) ?_
    case dy13 => (intro w hSw; (try dsimp only at hSw); go_simp; try with_reducible rfl)
    try simp only [Act.put, List.getElem_toArray, List.getElem_cons_succ, List.getElem_cons_zero, List.setIfInBounds_toArray, List.set_cons_zero, List.set_cons_succ]
    refine wpAnyH_take (i := 13) (v := ?dv14) rfl (by kernel_rfl) (by kernel_rfl) (by kernel_rfl) (fun _ _ _ h => h) (Or.inl ⟨by kernel_rfl, ?dy14⟩) (by assumption) ?_
    case dy14 => (intro w hSw; (try dsimp only at hSw); go_simp; try with_reducible rfl)
    try simp only [Act.put, List.getElem_toArray, List.getElem_cons_succ, List.getElem_cons_zero, List.setIfInBounds_toArray, List.set_cons_zero, List.set_cons_succ]
    refine wpAnyH_take (i := 14) (v := ?dv15) rfl (by kernel_rfl) (by kernel_rfl) (by kernel_rfl) (fun _ _ _ h => h) (Or.inl ⟨by kernel_rfl, ?dy15⟩) (by assumption) ?_
    case dy15 => (intro w hSw; (try dsimp only at hSw); go_simp; try with_reducible rfl)
    try simp only [Act.put, List.getElem_toArray, List.getElem_cons_succ, List.getElem_cons_zero, List.setIfInBounds_toArray, List.set_cons_zero, List.set_cons_succ]
    refine wpAnyH_take (i := 15) (v := ?dv16) rfl (by kernel_rfl) (by kernel_rfl) (by kernel_rfl) (fun _ _ _ h => h) (Or.inl ⟨by kernel_rfl, ?dy16⟩) (by assumption) ?_
    case dy16 => (intro w hSw; (try dsimp only at hSw); go_simp; try with_reducible rfl)
    try simp only [Act.put, List.getElem_toArray, List.getElem_cons_succ, List.getElem_cons_zero, List.setIfInBounds_toArray, List.set_cons_zero, List.set_cons_succ]
    refine wpAnyH_take (i := 16) (v := ?dv17) rfl (by kernel_rfl) (by kernel_rfl) (by kernel_rfl) (fun _ _ _ h => h) (Or.inl ⟨by kernel_rfl, ?dy17⟩) (by assumption) ?_
    case dy17 => (intro w hSw; (try dsimp only at hSw); go_simp; try with_reducible rfl)
    try simp only [Act.put, List.getElem_toArray, List.getElem_cons_succ, List.getElem_cons_zero, List.setIfInBounds_toArray, List.set_cons_zero, List.set_cons_succ]
    refine wpAnyH_take (i := 17) (v := ?dv18) rfl (by kernel_rfl) (by kernel_rfl) (by kernel_rfl) (fun _ _ _ h => h) (Or.inl ⟨by kernel_rfl, ?dy18⟩) (by assumption) ?_
    case dy18 => (intro w hSw; (try dsimp only at hSw); go_simp; try with_reducible rfl)
    try simp only [Act.put, List.getElem_toArray, List.getElem_cons_succ, List.getElem_cons_zero, List.setIfInBounds_toArray, List.set_cons_zero, List.set_cons_succ]
    refine wpAnyH_take (i := 18) (v := ?dv19) rfl (by kernel_rfl) (by kernel_rfl) (by kernel_rfl) (fun _ _ _ h => h) (Or.inl ⟨by kernel_rfl, ?dy19⟩) (by assumption) ?_
    case dy19 => (intro w hSw; (try dsimp only at hSw); go_simp; try with_reducible rfl)
    try simp only [Act.put, List.getElem_toArray, List.getElem_cons_succ, List.getElem_cons_zero, List.setIfInBounds_toArray, List.set_cons_zero, List.set_cons_succ]
    refine wpAnyH_take (i := 19) (v := ?dv20) rfl (by kernel_rfl) (by kernel_rfl) (by kernel_rfl) (fun _ _ _ h => h) (Or.inl ⟨by kernel_rfl, ?dy20⟩) (by assumption) ?_
    case dy20 => (intro w hSw; (try dsimp only at hSw); go_simp; try with_reducible rfl)
    try simp only [Act.put, List.getElem_toArray, List.getElem_cons_succ, List.getElem_cons_zero, List.setIfInBounds_toArray, List.set_cons_zero, List.set_cons_succ]
    refine wpAnyH_take (i := 20) (v := ?dv21) rfl (by kernel_rfl) (by kernel_rfl) (by kernel_rfl) (fun _ _ _ h => h) (Or.inl ⟨by kernel_rfl, ?dy21⟩) (by assumption) ?_
    case dy21 => (intro w hSw; (try dsimp only at hSw); go_simp; try with_reducible rfl)
    try simp only [Act.put, List.getElem_toArray, List.getElem_cons_succ, List.getElem_cons_zero, List.setIfInBounds_toArray, List.set_cons_zero, List.set_cons_succ]
    refine wpAnyH_take (i := 21) (v := ?dv22) rfl (by kernel_rfl) (by kernel_rfl) (by kernel_rfl) (fun _ _ _ h => h) (Or.inl ⟨by kernel_rfl, ?dy22⟩) (by assumption) ?_
    case dy22 => (intro w hSw; (try dsimp only at hSw); go_simp; try with_reducible rfl)
    try simp only [Act.put, List.getElem_toArray, List.getElem_cons_succ, List.getElem_cons_zero, List.setIfInBounds_toArray, List.set_cons_zero, List.set_cons_succ]
    refine wpAnyH_take (i := 22) (v := ?dv23) rfl (by kernel_rfl) (by kernel_rfl) (by kernel_rfl) (fun _ _ _ h => h) (Or.inl ⟨by kernel_rfl, ?dy23⟩) (by assumption) ?_
    case dy23 => (intro w hSw; (try dsimp only at hSw); go_simp; try with_reducible rfl)
    try simp only [Act.put, List.getElem_toArray, List.getElem_cons_succ, List.getElem_cons_zero, List.setIfInBounds_toArray, List.set_cons_zero, List.set_cons_succ]
    refine wpAnyH_take (i := 23) (v := ?dv24) rfl (by kernel_rfl) (by kernel_rfl) (by kernel_rfl) (fun _ _ _ h => h) (Or.inl ⟨by kernel_rfl, ?dy24⟩) (by assumption) ?_
    case dy24 => (intro w hSw; (try dsimp only at hSw); go_simp; try with_reducible rfl)
    try simp only [Act.put, List.getElem_toArray, List.getElem_cons_succ, List.getElem_cons_zero, List.setIfInBounds_toArray, List.set_cons_zero, List.set_cons_succ]
    refine wpAnyH_take (i := 24) (v := ?dv25) rfl (by kernel_rfl) (by kernel_rfl) (by kernel_rfl) (fun _ _ _ h => h) (Or.inl ⟨by kernel_rfl, ?dy25⟩) (by assumption) ?_
    case dy25 => (intro w hSw; (try dsimp only at hSw); go_simp; try with_reducible rfl)
    try simp only [Act.put, List.getElem_toArray, List.getElem_cons_succ, List.getElem_cons_zero, List.setIfInBounds_toArray, List.set_cons_zero, List.set_cons_succ]
    refine wpAnyH_take (i := 25) (v := ?dv26) rfl (by kernel_rfl) (by kernel_rfl) (by kernel_rfl) (fun _ _ _ h => h) (Or.inl ⟨by kernel_rfl, ?dy26⟩) (by assumption) ?_
    case dy26 => (intro w hSw; (try dsimp only at hSw); go_simp; try with_reducible rfl)
    try simp only [Act.put, List.getElem_toArray, List.getElem_cons_succ, List.getElem_cons_zero, List.setIfInBounds_toArray, List.set_cons_zero, List.set_cons_succ]
    refine wpAnyH_take (i := 27) (v := ?dv27) rfl (by kernel_rfl) (by kernel_rfl) (by kernel_rfl) (fun _ _ _ h => h) (Or.inl ⟨by kernel_rfl, ?dy27⟩) (by assumption) ?_
    case dy27 => (intro w hSw; (try dsimp only at hSw); go_simp; try with_reducible rfl)
    try simp only [Act.put, List.getElem_toArray, List.getElem_cons_succ, List.getElem_cons_zero, List.setIfInBounds_toArray, List.set_cons_zero, List.set_cons_succ]
    refine wpAnyH_take (i := 28) (v := ?dv28) rfl (by kernel_rfl) (by kernel_rfl) (by kernel_rfl) (fun _ _ _ h => h) (Or.inl ⟨by kernel_rfl, ?dy28⟩) (by assumption) ?_
    case dy28 => (intro w hSw; (try dsimp only at hSw); go_simp; try with_reducible rfl)
    try simp only [Act.put, List.getElem_toArray, List.getElem_cons_succ, List.getElem_cons_zero, List.setIfInBounds_toArray, List.set_cons_zero, List.set_cons_succ]
    refine wpAnyH_take (i := 29) (v := ?dv29) rfl (by kernel_rfl) (by kernel_rfl) (by kernel_rfl) (fun _ _ _ h => h) (Or.inl ⟨by kernel_rfl, ?dy29⟩) (by assumption) ?_
    case dy29 => (intro w hSw; (try dsimp only at hSw); go_simp; try with_reducible rfl)
    try simp only [Act.put, List.getElem_toArray, List.getElem_cons_succ, List.getElem_cons_zero, List.setIfInBounds_toArray, List.set_cons_zero, List.set_cons_succ]
    refine wpAnyH_take (i := 30) (v := ?dv30) rfl (by kernel_rfl) (by kernel_rfl) (by kernel_rfl) (fun _ _ _ h => h) (Or.inl ⟨by kernel_rfl, ?dy30⟩) (by assumption) ?_
    case dy30 => (intro w hSw; (try dsimp only at hSw); go_simp; try with_reducible rfl)
    try simp only [Act.put, List.getElem_toArray, List.getElem_cons_succ, List.getElem_cons_zero, List.setIfInBounds_toArray, List.set_cons_zero, List.set_cons_succ]
    refine wpAnyH_take (i := 31) (v := ?dv31) rfl (by kernel_rfl) (by kernel_rfl) (by kernel_rfl) (fun _ _ _ h => h) (Or.inl ⟨by kernel_rfl, ?dy31⟩) (by assumption) ?_
    case dy31 => (intro w hSw; (try dsimp only at hSw); go_simp; try with_reducible rfl)
    try simp only [Act.put, List.getElem_toArray, List.getElem_cons_succ, List.getElem_cons_zero, List.setIfInBounds_toArray, List.set_cons_zero, List.set_cons_succ]
    refine wpAnyH_take (i := 32) (v := ?dv32) rfl (by kernel_rfl) (by kernel_rfl) (by kernel_rfl) (fun _ _ _ h => h) (Or.inl ⟨by kernel_rfl, ?dy32⟩) (by assumption) ?_
    case dy32 => (intro w hSw; (try dsimp only at hSw); go_simp; try with_reducible rfl)
    try simp only [Act.put, List.getElem_toArray, List.getElem_cons_succ, List.getElem_cons_zero, List.setIfInBounds_toArray, List.set_cons_zero, List.set_cons_succ]
    refine wpAnyH_take (i := 33) (v := ?dv33) rfl (by kernel_rfl) (by kernel_rfl) (by kernel_rfl) (fun _ _ _ h => h) (Or.inl ⟨by kernel_rfl, ?dy33⟩) (by assumption) ?_
    case dy33 => (intro w hSw; (try dsimp only at hSw); go_simp; try with_reducible rfl)
    try simp only [Act.put, List.getElem_toArray, List.getElem_cons_succ, List.getElem_cons_zero, List.setIfInBounds_toArray, List.set_cons_zero, List.set_cons_succ]
    refine wpAnyH_take (i := 34) (v := ?dv34) rfl (by kernel_rfl) (by kernel_rfl) (by kernel_rfl) (fun _ _ _ h => h) (Or.inl ⟨by kernel_rfl, ?dy34⟩) (by assumption) ?_
    case dy34 => (intro w hSw; (try dsimp only at hSw); go_simp; try with_reducible rfl)
    try simp only [Act.put, List.getElem_toArray, List.getElem_cons_succ, List.getElem_cons_zero, List.setIfInBounds_toArray, List.set_cons_zero, List.set_cons_succ]
    refine wpAnyH_take (i := 35) (v := ?dv35) rfl (by kernel_rfl) (by kernel_rfl) (by kernel_rfl) (fun _ _ _ h => h) (Or.inl ⟨by kernel_rfl, ?dy35⟩) (by assumption) ?_
    case dy35 => (intro w hSw; (try dsimp only at hSw); go_simp; try with_reducible rfl)
    try simp only [Act.put, List.getElem_toArray, List.getElem_cons_succ, List.getElem_cons_zero, List.setIfInBounds_toArray, List.set_cons_zero, List.set_cons_succ]
    refine wpAnyH_take (i := 36) (v := ?dv36) rfl (by kernel_rfl) (by kernel_rfl) (by kernel_rfl) (fun _ _ _ h => h) (Or.inl ⟨by kernel_rfl, ?dy36⟩) (by assumption) ?_
    case dy36 => (intro w hSw; (try dsimp only at hSw); go_simp; try with_reducible rfl)
    try simp only [Act.put, List.getElem_toArray, List.getElem_cons_succ, List.getElem_cons_zero, List.setIfInBounds_toArray, List.set_cons_zero, List.set_cons_succ]
    refine wpAnyH_take (i := 37) (v := ?dv37) rfl (by kernel_rfl) (by kernel_rfl) (by kernel_rfl) (fun _ _ _ h => h) (Or.inl ⟨by kernel_rfl, ?dy37⟩) (by assumption) ?_
    case dy37 => (intro w hSw; (try dsimp only at hSw); go_simp; try with_reducible rfl)
    try simp only [Act.put, List.getElem_toArray, List.getElem_cons_succ, List.getElem_cons_zero, List.setIfInBounds_toArray, List.set_cons_zero, List.set_cons_succ]
    refine wpAnyH_take (i := 38) (v := ?dv38) rfl (by kernel_rfl) (by kernel_rfl) (by kernel_rfl) (fun _ _ _ h => h) (Or.inl ⟨by kernel_rfl, ?dy38⟩) (by assumption) ?_
    case dy38 => (intro w hSw; (try dsimp only at hSw); go_simp; try with_reducible rfl)
    try simp only [Act.put, List.getElem_toArray, List.getElem_cons_succ, List.getElem_cons_zero, List.setIfInBounds_toArray, List.set_cons_zero, List.set_cons_succ]
    refine wpAnyH_take (i := 39) (v := ?dv39) rfl (by kernel_rfl) (by kernel_rfl) (by kernel_rfl) (fun _ _ _ h => h) (Or.inl ⟨by kernel_rfl, ?dy39⟩) (by assumption) ?_
    case dy39 => (intro w hSw; (try dsimp only at hSw); go_simp; try with_reducible rfl)
    try simp only [Act.put, List.getElem_toArray, List.getElem_cons_succ, List.getElem_cons_zero, List.setIfInBounds_toArray, List.set_cons_zero, List.set_cons_succ]
    refine wpAnyH_take (i := 40) (v := ?dv40) rfl (by kernel_rfl) (by kernel_rfl) (by kernel_rfl) (fun _ _ _ h => h) (Or.inl ⟨by kernel_rfl, ?dy40⟩) (by assumption) ?_
    case dy40 => (intro w hSw; (try dsimp only at hSw); go_simp; try with_reducible rfl)
    try simp only [Act.put, List.getElem_toArray, List.getElem_cons_succ, List.getElem_cons_zero, List.setIfInBounds_toArray, List.set_cons_zero, List.set_cons_succ]
    refine wpAnyH_take (i := 41) (v := ?dv41) rfl (by kernel_rfl) (by kernel_rfl) (by kernel_rfl) (fun _ _ _ h => h) (Or.inl ⟨by kernel_rfl, ?dy41⟩) (by assumption) ?_
    case dy41 => (intro w hSw; (try dsimp only at hSw); go_simp; try with_reducible rfl)
    try simp only [Act.put, List.getElem_toArray, List.getElem_cons_succ, List.getElem_cons_zero, List.setIfInBounds_toArray, List.set_cons_zero, List.set_cons_succ]
    refine wpAnyH_take (i := 42) (v := ?dv42) rfl (by kernel_rfl) (by kernel_rfl) (by kernel_rfl) (fun _ _ _ h => h) (Or.inl ⟨by kernel_rfl, ?dy42⟩) (by assumption) ?_
    case dy42 => (intro w hSw; (try dsimp only at hSw); go_simp; try with_reducible rfl)
    try simp only [Act.put, List.getElem_toArray, List.getElem_cons_succ, List.getElem_cons_zero, List.setIfInBounds_toArray, List.set_cons_zero, List.set_cons_succ]
    refine wpAnyH_take (i := 43) (v := ?dv43) rfl (by kernel_rfl) (by kernel_rfl) (by kernel_rfl) (fun _ _ _ h => h) (Or.inl ⟨by kernel_rfl, ?dy43⟩) (by assumption) ?_
    case dy43 => (intro w hSw; (try dsimp only at hSw); go_simp; try with_reducible rfl)
    try simp only [Act.put, List.getElem_toArray, List.getElem_cons_succ, List.getElem_cons_zero, List.setIfInBounds_toArray, List.set_cons_zero, List.set_cons_succ]
    refine wpAnyH_ready (rs := [26, 46]) (by kernel_rfl) (by simp) ?_
    refine AllReadyH.cons rfl (fun K hK => ?_) ?_
    · rw [if_pos (by kernel_rfl)]
      go_simp
      go_at_call 41
      refine (qid_of_any _ _ _ _).mono ?_
      rintro e X1 ⟨rfl, hbn⟩
      replace hB := hid (sn hB.out hbn)
      replace hbn := hid hbn
      refine hK.out _ _ (of5K hx.out haW.out eN.out eD.out hB.out) (fun hHeld => ?_)
      clear hK K
      try simp only [Act.put, List.getElem_toArray, List.getElem_cons_succ, List.getElem_cons_zero, List.setIfInBounds_toArray, List.set_cons_zero, List.set_cons_succ]
      refine wpAnyH_ready (rs := [44, 46]) (by kernel_rfl) (by simp) ?_
      refine AllReadyH.cons rfl (fun K hK => ?_) ?_
      · rw [if_pos (by kernel_rfl)]
        go_simp
        go_at_call 42
        refine (hof.out _).mono ?_
        rintro e X2 ⟨rfl, hbn⟩
        replace hB := hid (sn hB.out hbn)
        replace hbn := hid hbn
        refine hK.out _ _ (of5K hx.out haW.out eN.out eD.out hB.out) (fun hHeld => ?_)
        clear hK K
        try simp only [Act.put, List.getElem_toArray, List.getElem_cons_succ, List.getElem_cons_zero, List.setIfInBounds_toArray, List.set_cons_zero, List.set_cons_succ]
        refine wpAnyH_take (i := 45) (v := .agg (a.m.rcells (.slice aN lN cN) (.slice none 0 0) (strL a.m.data))) rfl (by kernel_rfl) (by kernel_rfl) (by kernel_rfl) (fun _ _ _ h => h) (Or.inl ⟨by kernel_rfl, fun X _ => run_build_op X _ _ 70 _ (a.m.rcells (.slice aN lN cN) (.slice none 0 0) (strL a.m.data)) rfl (by kernel_rfl)⟩) (by assumption) ?_
        try simp only [Act.put, List.getElem_toArray, List.getElem_cons_succ, List.getElem_cons_zero, List.setIfInBounds_toArray, List.set_cons_zero, List.set_cons_succ]
        refine wpAnyH_ready (rs := [46]) (by kernel_rfl) (by simp) ?_
        refine AllReadyH.cons rfl (fun K hK => ?_) ?_
        · rw [if_pos (by kernel_rfl)]
          go_simp
          obtain ⟨X3, hX2⟩ : ∃ Y, Y = X2.alloc (.cells zeroR 70) := ⟨_, rfl⟩
          have hbn : Below X2.heap.size X2 X3 := by rw [hX2]; exact (Below.refl _ _).alloc (Nat.le_refl _) _
          have hk := hid (show X3.heap[X2.heap.size]? = some (.cells zeroR 70 (0, 0)) by rw [hX2, heap_alloc_new])
          have hle := hid (show W.heap.size ≤ X2.heap.size from hB.out.size)
          replace hB := hid (sn hB.out hbn)
          rw [← zeroR_lit, ← hX2]
          replace hX2 := hid hX2
          replace hbn := hid hbn
          generalize hk3 : X2.heap.size = k3 at hk hle ⊢
          replace hk3 := hid hk3
          refine hK.out _ _ (of5K hx.out haW.out eN.out eD.out hB.out) (fun hHeld => ?_)
          clear hK K
          try simp only [Act.put, List.getElem_toArray, List.getElem_cons_succ, List.getElem_cons_zero, List.setIfInBounds_toArray, List.set_cons_zero, List.set_cons_succ]
          refine wpAnyH_ready (rs := [47]) (by kernel_rfl) (by simp) ?_
          refine AllReadyH.cons rfl (fun K hK => ?_) ?_
          · rw [if_pos (by kernel_rfl)]
            refine wp_store_row 70 (.tmp 3) (.tmp 50) (by kernel_rfl) k3 (a.m.rcells (.slice aN lN cN) (.slice none 0 0) (strL a.m.data)) (by kernel_rfl) (by kernel_rfl) 70 zeroR hk.out (by kernel_rfl) (by kernel_rfl) (by kernel_rfl) ?_
            refine hK.out _ _ (of5K hx.out haW.out eN.out eD.out (below_setRow hB.out hle.out _)) (fun hHeld => ?_)
            clear hK K
            try simp only [Act.put, List.getElem_toArray, List.getElem_cons_succ, List.getElem_cons_zero]
            refine wpAnyH_done (by kernel_rfl) ?_ _
            go_wp2_with fail
            go_meet
            exact ⟨k3, rfl, hid (OfSt.first hx.out hy.out hb0.out hB.out hk.out hle.out)⟩
          exact AllReadyH.nil
        exact AllReadyH.nil
      refine AllReadyH.cons rfl (fun K hK => ?_) ?_
      · rw [if_pos (by kernel_rfl)]
        go_simp
        obtain ⟨X2, hX2⟩ : ∃ Y, Y = X1.alloc (.cells zeroR 70) := ⟨_, rfl⟩
        have hbn : Below X1.heap.size X1 X2 := by rw [hX2]; exact (Below.refl _ _).alloc (Nat.le_refl _) _
        have hk := hid (show X2.heap[X1.heap.size]? = some (.cells zeroR 70 (0, 0)) by rw [hX2, heap_alloc_new])
        have hle := hid (show W.heap.size ≤ X1.heap.size from hB.out.size)
        replace hB := hid (sn hB.out hbn)
        rw [← zeroR_lit, ← hX2]
        replace hX2 := hid hX2
        replace hbn := hid hbn
        generalize hk3 : X1.heap.size = k3 at hk hle ⊢
        replace hk3 := hid hk3
        refine hK.out _ _ (of5K hx.out haW.out eN.out eD.out hB.out) (fun hHeld => ?_)
        clear hK K
        try simp only [Act.put, List.getElem_toArray, List.getElem_cons_succ, List.getElem_cons_zero, List.setIfInBounds_toArray, List.set_cons_zero, List.set_cons_succ]
        refine wpAnyH_ready (rs := [44]) (by kernel_rfl) (by simp) ?_
        refine AllReadyH.cons rfl (fun K hK => ?_) ?_
        · rw [if_pos (by kernel_rfl)]
          go_simp
          go_at_call 42
          refine (hof.out _).mono ?_
          rintro e X3 ⟨rfl, hbn⟩
          replace hB := hid (sn hB.out hbn)
          replace hk := hid ((hbn.block _ (lt_of_block hk.out)).trans hk.out)
          replace hbn := hid hbn
          refine hK.out _ _ (of5K hx.out haW.out eN.out eD.out hB.out) (fun hHeld => ?_)
          clear hK K
          try simp only [Act.put, List.getElem_toArray, List.getElem_cons_succ, List.getElem_cons_zero, List.setIfInBounds_toArray, List.set_cons_zero, List.set_cons_succ]
          refine wpAnyH_take (i := 45) (v := .agg (a.m.rcells (.slice aN lN cN) (.slice none 0 0) (strL a.m.data))) rfl (by kernel_rfl) (by kernel_rfl) (by kernel_rfl) (fun _ _ _ h => h) (Or.inl ⟨by kernel_rfl, fun X _ => run_build_op X _ _ 70 _ (a.m.rcells (.slice aN lN cN) (.slice none 0 0) (strL a.m.data)) rfl (by kernel_rfl)⟩) (by assumption) ?_
          try simp only [Act.put, List.getElem_toArray, List.getElem_cons_succ, List.getElem_cons_zero, List.setIfInBounds_toArray, List.set_cons_zero, List.set_cons_succ]
          refine wpAnyH_ready (rs := [47]) (by kernel_rfl) (by simp) ?_
          refine AllReadyH.cons rfl (fun K hK => ?_) ?_
          · rw [if_pos (by kernel_rfl)]
            refine wp_store_row 70 (.tmp 3) (.tmp 50) (by kernel_rfl) k3 (a.m.rcells (.slice aN lN cN) (.slice none 0 0) (strL a.m.data)) (by kernel_rfl) (by kernel_rfl) 70 zeroR hk.out (by kernel_rfl) (by kernel_rfl) (by kernel_rfl) ?_
            refine hK.out _ _ (of5K hx.out haW.out eN.out eD.out (below_setRow hB.out hle.out _)) (fun hHeld => ?_)
            clear hK K
            try simp only [Act.put, List.getElem_toArray, List.getElem_cons_succ, List.getElem_cons_zero]
            refine wpAnyH_done (by kernel_rfl) ?_ _
            go_wp2_with fail
            go_meet
            exact ⟨k3, rfl, hid (OfSt.first hx.out hy.out hb0.out hB.out hk.out hle.out)⟩
          exact AllReadyH.nil
        exact AllReadyH.nil
      exact AllReadyH.nil
    refine AllReadyH.cons rfl (fun K hK => ?_) ?_
    · rw [if_pos (by kernel_rfl)]
      go_simp
      obtain ⟨X1, hX2⟩ : ∃ Y, Y = X0.alloc (.cells zeroR 70) := ⟨_, rfl⟩
      have hbn : Below X0.heap.size X0 X1 := by rw [hX2]; exact (Below.refl _ _).alloc (Nat.le_refl _) _
      have hk := hid (show X1.heap[X0.heap.size]? = some (.cells zeroR 70 (0, 0)) by rw [hX2, heap_alloc_new])
      have hle := hid (show W.heap.size ≤ X0.heap.size from hB.out.size)
      replace hB := hid (sn hB.out hbn)
      rw [← zeroR_lit, ← hX2]
      replace hX2 := hid hX2
      replace hbn := hid hbn
      generalize hk3 : X0.heap.size = k3 at hk hle ⊢
      replace hk3 := hid hk3
      refine hK.out _ _ (of5K hx.out haW.out eN.out eD.out hB.out) (fun hHeld => ?_)
      clear hK K
      try simp only [Act.put, List.getElem_toArray, List.getElem_cons_succ, List.getElem_cons_zero, List.setIfInBounds_toArray, List.set_cons_zero, List.set_cons_succ]
      refine wpAnyH_ready (rs := [26]) (by kernel_rfl) (by simp) ?_
      refine AllReadyH.cons rfl (fun K hK => ?_) ?_
      · rw [if_pos (by kernel_rfl)]
        go_simp
        go_at_call 41
        refine (qid_of_any _ _ _ _).mono ?_
        rintro e X2 ⟨rfl, hbn⟩
        replace hB := hid (sn hB.out hbn)
        replace hk := hid ((hbn.block _ (lt_of_block hk.out)).trans hk.out)
        replace hbn := hid hbn
        refine hK.out _ _ (of5K hx.out haW.out eN.out eD.out hB.out) (fun hHeld => ?_)
        clear hK K
        try simp only [Act.put, List.getElem_toArray, List.getElem_cons_succ, List.getElem_cons_zero, List.setIfInBounds_toArray, List.set_cons_zero, List.set_cons_succ]
        refine wpAnyH_ready (rs := [44]) (by kernel_rfl) (by simp) ?_
        refine AllReadyH.cons rfl (fun K hK => ?_) ?_
        · rw [if_pos (by kernel_rfl)]
          go_simp
          go_at_call 42
          refine (hof.out _).mono ?_
          rintro e X3 ⟨rfl, hbn⟩
          replace hB := hid (sn hB.out hbn)
          replace hk := hid ((hbn.block _ (lt_of_block hk.out)).trans hk.out)
          replace hbn := hid hbn
          refine hK.out _ _ (of5K hx.out haW.out eN.out eD.out hB.out) (fun hHeld => ?_)
          clear hK K
          try simp only [Act.put, List.getElem_toArray, List.getElem_cons_succ, List.getElem_cons_zero, List.setIfInBounds_toArray, List.set_cons_zero, List.set_cons_succ]
          refine wpAnyH_take (i := 45) (v := .agg (a.m.rcells (.slice aN lN cN) (.slice none 0 0) (strL a.m.data))) rfl (by kernel_rfl) (by kernel_rfl) (by kernel_rfl) (fun _ _ _ h => h) (Or.inl ⟨by kernel_rfl, fun X _ => run_build_op X _ _ 70 _ (a.m.rcells (.slice aN lN cN) (.slice none 0 0) (strL a.m.data)) rfl (by kernel_rfl)⟩) (by assumption) ?_
          try simp only [Act.put, List.getElem_toArray, List.getElem_cons_succ, List.getElem_cons_zero, List.setIfInBounds_toArray, List.set_cons_zero, List.set_cons_succ]
          refine wpAnyH_ready (rs := [47]) (by kernel_rfl) (by simp) ?_
          refine AllReadyH.cons rfl (fun K hK => ?_) ?_
          · rw [if_pos (by kernel_rfl)]
            refine wp_store_row 70 (.tmp 3) (.tmp 50) (by kernel_rfl) k3 (a.m.rcells (.slice aN lN cN) (.slice none 0 0) (strL a.m.data)) (by kernel_rfl) (by kernel_rfl) 70 zeroR hk.out (by kernel_rfl) (by kernel_rfl) (by kernel_rfl) ?_
            refine hK.out _ _ (of5K hx.out haW.out eN.out eD.out (below_setRow hB.out hle.out _)) (fun hHeld => ?_)
            clear hK K
            try simp only [Act.put, List.getElem_toArray, List.getElem_cons_succ, List.getElem_cons_zero]
            refine wpAnyH_done (by kernel_rfl) ?_ _
            go_wp2_with fail
            go_meet
            exact ⟨k3, rfl, hid (OfSt.first hx.out hy.out hb0.out hB.out hk.out hle.out)⟩
          exact AllReadyH.nil
        exact AllReadyH.nil
      exact AllReadyH.nil
    exact AllReadyH.nil
  case rest =>
    obtain ⟨k3, rfl, hM⟩ := hcut
    replace hof := hid hof
    go_wp2_with fail
    go_loopw [4] (fun kv wr => ∃ (k : Nat) (qv : Value), k ≤ q ∧ kv = .int .i64 (k : Int) ∧ Hid (OfSt w wr a (.slice aN lN cN) k3 qv) ∧ Hid (wr.ownsRow (k3 + 1) 66 3 qv k ((a.m.qids.take k).flatMap fun q => q.cells.toList))) (fun kv _ => q - (intOf kv).toNat)
    case atStart => exact ⟨0, .slice none 0 0, by omega, rfl, hM, hid (World.ownsRow_nil _ _ _ _)⟩
    case round =>
      obtain ⟨k, qv, hk1, rfl, hS, hown⟩ := hrel
      obtain ⟨ak, ck, rfl⟩ := own_form hown.out
      have d12 : wr.cell? ⟨w.heap.size, 12, none⟩ = some (.slice aQ q cQ) := by rw [block_cell hS.out.one 12, ← eQ.out]; rfl
      have hk3 := hS.out.hk
      have hl3 : k3 < wr.heap.size := lt_of_block hS.out.row
      by_cases hkl : k < q
      · have hQ := (ha0.out.below hS.out.bel).2.1
        rw [eQ.out] at hQ
        obtain ⟨b1, o1, ha1, hc1, hc2, hc3⟩ := QidsAt.cell hQ k (by rw [← hq]; exact hkl)
        clear hQ
        have hfl := hid (qids_succ (Q := a.m.qids) (k := k) (by rw [← hq]; exact hkl))
        obtain ⟨g, hg1⟩ : ∃ g, g = a.m.qids[k]'(by rw [← hq]; exact hkl) := ⟨_, rfl⟩
        rw [← hg1] at hc1 hc2 hc3 hfl
        replace hg1 := hid hg1
        subst ha1
        have i1 : (0 : Int) ≤ (k : Int) := by omega
        have i2 : (k : Int) < (q : Int) := by omega
        have s0 : wr.drew.cell? ⟨k3, 12, none⟩ = some (.slice ak k ck) := block_cell hS.out.row 12
        have s1 : wr.drew.cell? ⟨w.heap.size, 12, none⟩ = some (.slice (some ⟨b1, o1, none⟩) q cQ) := d12
        have s2 : wr.drew.cell? ⟨b1, o1 + k * 3, none⟩ = some (.int .u8 (g.t : Int)) := hc1
        have s3 : wr.drew.cell? ⟨b1, o1 + k * 3 + 1, none⟩ = some (.int .u32 (g.v : Int)) := hc2
        have s4 : wr.drew.cell? ⟨b1, o1 + k * 3 + 2, none⟩ = some (.int .u64 (g.p : Int)) := hc3
        have hvl := hid hown.out.lt
        go_wp2_with fail
        go_region_law (first | (refine step_append_row elemRQ _ rfl (.tmp 59) (.tmp 66) rfl (k3 + 1) (.slice ak k ck) k _ rfl hownA.out _ 1 [.int .u8 (g.t : Int), .int .u32 (g.v : Int), .int .u64 (g.p : Int)] rfl hsrc.out (by intro u hu; simp at hu; rcases hu with rfl | rfl | rfl <;> rfl) (by unfold maxLen; omega) (by omega) (by simp; omega) ?_; intro a' c' w' h2 h3; have hS1 := hSA.out.up ((Below.refl _ _).grown h3 (by simp; omega) (fun j hj => (hvl.out j hj).1)); have f1 : w'.frozen? ⟨k3, 12, none⟩ = false := block_free hS1.row 12; have f2 : w'.cell? ⟨k3, 12, none⟩ = some (.slice ak k ck) := block_cell hS1.row 12; have hS2 := hid (hS1.set (.slice a' (k + 1) c')); have hown2 := hid (ownsRow_setCell_below h2 (a := ⟨k3, 12, none⟩) (by show k3 < k3 + 1; omega) (.slice a' (k + 1) c')); clear h2 h3 hS1) | (go_simp; ((go_at_call 41); (with_reducible refine (qid_of_any _ _ _ _).mono ?_); rintro e wn ⟨rfl, hbn⟩; have hzn := hbn.size; simp only [World.drew] at hzn; have hDn : Below wr.heap.size wr wn := ((Below.refl wr.heap.size wr).drew).trans hbn; have hDA := hDn.alloc hzn (.cells #[.int .u8 (g.t : Int), .int .u32 (g.v : Int), .int .u64 (g.p : Int)] 66); have hownA := hid (own_keep hown.out (fun j hj => hDA.block j (hown.out.lt j hj).2)); have hsrc : Hid (RowAt (wn.alloc (.cells #[.int .u8 (g.t : Int), .int .u32 (g.v : Int), .int .u64 (g.p : Int)] 66)) 3 (.slice (some ⟨wn.heap.size, 0, none⟩) 1 1) 1 [.int .u8 (g.t : Int), .int .u32 (g.v : Int), .int .u64 (g.p : Int)]) := hid (RowAt.of_block (n := 1) (heap_alloc_new _ _) rfl (by unfold maxLen; omega)); have hSA := hid (hS.out.up (hDA.mono (by omega))); have t0 : (wn.alloc (.cells #[.int .u8 (g.t : Int), .int .u32 (g.v : Int), .int .u64 (g.p : Int)] 66)).cell? ⟨k3, 12, none⟩ = some (.slice ak k ck) := block_cell hSA.out.row 12; replace s0 := (hbn.cell (p := ⟨k3, 12, none⟩) hl3).trans s0; replace hDA := hid hDA; replace hDn := hid hDn; replace hbn := hid hbn)))
        all_goals
          clear s0 s1 s2 s3 s4 t0 hown hownA hvl hDA hDn hsrc hSA hbn hzn d12 hc1 hc2 hc3 i1 i2 f1 f2 hS
          go_wp2_with fail
          go_roundw
          case rel => exact ⟨k + 1, _, by omega, by go_num, hS2, hid (by rw [hfl.out]; exact hown2.out)⟩
          case measure => simp [intOf]; omega
      · obtain rfl : k = q := by omega
        have hrow : Hid (QidsAt (wr.setRow (w.heap.size + 1) (a.m.rcells (.slice aN lN cN) (.slice ak k ck) (strL a.m.data))) (.slice ak k ck) a.m.qids) := hid (by
          have h1 := RowAt.of_own hown.out
          rw [List.take_of_length_le (by omega)] at h1
          have h2 : QidsAt wr (.slice ak k ck) a.m.qids := by unfold QidsAt; rw [← hq]; exact h1
          exact RowAt.other h2 (by simp) fun j hj => setRow_other _ _ _ _ (by have := (hown.out.lt j hj).1; omega))
        have hone := hid hS.out.row
        have htwo := hid hS.out.two
        go_wp2_with (first
          | (refine wpList_load_row (by rfl) 70 (.tmp 3) (by rfl) k3 (by rfl) 70 (a.m.rcells (.slice aN lN cN) (.slice ak k ck) (strL a.m.data)) (0, 0) _ hone.out Tryz.underlying70 (by rfl) (by kernel_rfl) ?_)
          | (refine wpList_store_row (by rfl) 70 (.tmp 2) (.tmp 69) (by rfl) (w.heap.size + 1) (a.m.rcells (.slice aN lN cN) (.slice ak k ck) (strL a.m.data)) (by rfl) (by rfl) 70 _ htwo.out (by kernel_rfl) (by kernel_rfl) (by kernel_rfl) ?_))
        refine bodyPost_ret (results_cell_row rfl _ _ (w.heap.size + 1) _ _ _ _ rfl (setRow_heap _ _ _ _ _ _ htwo.out) Tryz.underlying70 rfl (by kernel_rfl)) rfl ?_
        exact ⟨_, by rw [eN.out], hrow.out, below_setRow hS.out.bel (by omega) _⟩
end Go.Proofs.YtcbglcebdkpcfaaGreat
