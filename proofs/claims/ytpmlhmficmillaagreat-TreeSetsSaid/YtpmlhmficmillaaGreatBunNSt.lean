/- The qid of a node, in the program and in the reference. Conditions: numbers in their types.
The first region of the program's Stat, operation by operation. Conditions: numbers in their types.
The program's Stat of a node. Conditions: numbers in their types. -/
import Derived.Test.YtpmlhmficmillaaGreatNodBZ
import Derived.Test.YtpmlhmficmillaaGreatBunNE
import Derived.Test.YtpmlhmficmillaaGreatBunNCl
namespace Go.Proofs.YtpmlhmficmillaaGreat
section
open Go.RowKit
set_option maxRecDepth 100000
set_option linter.unusedVariables false

def typeN (m : Nat) : Nat := m / 16777216 &&& 224
theorem type_bits (m : Nat) (hm : m < 4294967296) : bits .and .u8 ((m : Int) / 16777216) 224 = ((typeN m : Nat) : Int) := by
  rw [show (m : Int) / 16777216 = ((m / 16777216 : Nat) : Int) from rfl, show (224 : Int) = ((224 : Nat) : Int) from rfl, u8_and_nat _ _ (by omega) (by omega)]
  rfl

theorem qtype_any (m : Nat) (w : World) (hm : m < 4294967296) :
    Calls Tryz.prog 54 #[.int .u32 (m : Int)] w fun e w' => e = .returned (.int .u8 (typeN m : Int)) ∧ w' = w := by
  have hE := hid (type_bits m hm)
  go_enter Tryz.func54, Tryz.ntmps54
  go_wp2_with fail
  go_ret
  exact ⟨ret_int (by rw [hE.out]), rfl⟩

def qidC (n : Nod) : Array Value := #[.int .u8 (typeN n.mode : Int), .int .u32 (n.vers : Int), .int .u64 (n.path : Int)]

set_option maxHeartbeats 1600000 in
theorem nqid_any (n : Nod) (w : World) (hn : NodOk n) :
    Calls Tryz.prog 29 #[.agg n.cells] w fun e w' => e = .returned (.agg (qidC n)) ∧ Below w.heap.size w w' := by
  obtain ⟨W, hW⟩ : ∃ W, W = (w.alloc (.cells n.cells 28)).alloc (.cells #[.int .u8 0, .int .u32 0, .int .u64 0] 59) := ⟨_, rfl⟩
  have hb0 : Below w.heap.size w W := by rw [hW]; exact ((Below.refl w.heap.size w).alloc (Nat.le_refl _) _).alloc (by simp) _
  have hx : W.heap[w.heap.size]? = some (.cells n.cells 28 (0, 0)) := by rw [hW, heap_alloc_old _ _ (by simp), heap_alloc_new]
  have hy : W.heap[w.heap.size + 1]? = some (.cells #[.int .u8 0, .int .u32 0, .int .u64 0] 59 (0, 0)) := by
    rw [hW]
    have := heap_alloc_new (w.alloc (.cells n.cells 28)) (.cells #[.int .u8 0, .int .u32 0, .int .u64 0] 59)
    simpa using this
  have hm := hn.mode
  rw [nod_cells] at hx hW ⊢
  have c0 : W.drew.cell? ⟨w.heap.size, 0, none⟩ = some (.int .u64 (n.path : Int)) := block_cell hx 0
  have c1 : W.drew.cell? ⟨w.heap.size, 1, none⟩ = some (.int .u32 (n.vers : Int)) := block_cell hx 1
  have c2 : W.drew.cell? ⟨w.heap.size, 2, none⟩ = some (.int .u32 (n.mode : Int)) := block_cell hx 2
  have g0 : W.cell? ⟨w.heap.size + 1, 0, none⟩ = some (.int .u8 0) := block_cell hy 0
  have g1 : W.cell? ⟨w.heap.size + 1, 1, none⟩ = some (.int .u32 0) := block_cell hy 1
  have g2 : W.cell? ⟨w.heap.size + 1, 2, none⟩ = some (.int .u64 0) := block_cell hy 2
  have f0 : W.frozen? ⟨w.heap.size + 1, 0, none⟩ = false := block_free hy 0
  have f1 : W.frozen? ⟨w.heap.size + 1, 1, none⟩ = false := block_free hy 1
  have f2 : W.frozen? ⟨w.heap.size + 1, 2, none⟩ = false := block_free hy 2
  have ff0 : W.drew.frozen? ⟨w.heap.size + 1, 0, none⟩ = false := f0
  have gg0 : W.drew.cell? ⟨w.heap.size + 1, 0, none⟩ = some (.int .u8 0) := g0
  have hz4 := hid (block_set (block_set (block_set hy 0 (.int .u8 (typeN n.mode : Int))) 1 (.int .u32 (n.vers : Int))) 2 (.int .u64 (n.path : Int)))
  have hzB := hid (((hb0.setCell (p := ⟨w.heap.size + 1, 0, none⟩) (by simp) (.int .u8 (typeN n.mode : Int))).setCell (p := ⟨w.heap.size + 1, 1, none⟩) (by simp) (.int .u32 (n.vers : Int))).setCell (p := ⟨w.heap.size + 1, 2, none⟩) (by simp) (.int .u64 (n.path : Int))).drew
  have hx9 : Hid ((((W.setCell ⟨w.heap.size + 1, 0, none⟩ (.int .u8 (typeN n.mode : Int))).setCell ⟨w.heap.size + 1, 1, none⟩ (.int .u32 (n.vers : Int))).setCell ⟨w.heap.size + 1, 2, none⟩ (.int .u64 (n.path : Int))).drew.heap[w.heap.size]? = _) := hid ((block_set_other (by show _ ≠ _; simp)).trans ((block_set_other (by show _ ≠ _; simp)).trans ((block_set_other (by show _ ≠ _; simp)).trans hx)))
  have hqt := hid (fun W => qtype_any n.mode W hm)
  replace hx := hid hx
  replace hy := hid hy
  replace hb0 := hid hb0
  replace hn := hid hn
  go_enter Tryz.func29, Tryz.ntmps29
  go_wp2_with (rw [← hW]; replace hW := hid hW)
  go_region_held3 (fun w' => w'.cell? ⟨w.heap.size, 0, none⟩ = some (.int .u64 (n.path : Int)) ∧ w'.cell? ⟨w.heap.size, 1, none⟩ = some (.int .u32 (n.vers : Int)) ∧ w'.cell? ⟨w.heap.size, 2, none⟩ = some (.int .u32 (n.mode : Int)))
    (first | exact ⟨c0, c1, c2⟩ | exact ⟨block_cell hx9.out 0, block_cell hx9.out 1, block_cell hx9.out 2⟩ | go_keep)
    ((go_at_call 54; (with_reducible refine (hqt.out _).mono ?_); rintro e w1 ⟨rfl, rfl⟩))
  clear c0 c1 c2 g0 g1 g2 f0 f1 f2 ff0 gg0
  all_goals
    go_wp2_with fail
    refine bodyPost_ret (results_cell_row rfl _ _ (w.heap.size + 1) _ _ _ _ rfl hz4.out Tryz.underlying59 rfl (by kernel_rfl)) rfl ?_
    exact ⟨rfl, hzB.out⟩

end
end Go.Proofs.YtpmlhmficmillaaGreat

namespace Go.Proofs.YtpmlhmficmillaaGreat
section
open Go.RowKit
set_option maxRecDepth 100000
set_option linter.unusedVariables false

def statC (n : Nod) (len : Nat) : Array Value := #[.int .u16 0, .int .u32 0, .int .u8 (typeN n.mode : Int), .int .u32 (n.vers : Int), .int .u64 (n.path : Int), .int .u32 (n.mode : Int), .int .u32 (n.atm : Int), .int .u32 (n.mtm : Int), .int .u64 (len : Int), .string n.name, .string n.uid, .string n.gid, .string n.muid]
theorem stat_built (n : Nod) : Tryz.prog.built 61 [(2, .agg (qidC n)), (3, .int .u32 (n.mode : Int)), (4, .int .u32 (n.atm : Int)), (5, .int .u32 (n.mtm : Int)), (7, .string n.name), (8, .string n.uid), (9, .string n.gid), (10, .string n.muid)] = some (statC n 0) := by kernel_rfl
section
variable {o : Oper} {ev : Operand → Value} {w : World}
theorem rrun_build {t : TypeId} {parts : Array (Nat × Operand)} {cells : Array Value} (ho : o.op = .build t parts) (hb : Tryz.prog.built t (parts.map fun (i, x) => (i, ev x)).toList = some cells) : (execOp ev o).run Tryz.prog w = .ok (.value (.agg cells)) w := by
  unfold execOp
  simp only [ho, Sem.run_bind, run_build w t _ cells hb, Result.andThen_ok]
  rfl
theorem rrun_statbuild {n : Nod} (ho : o.op = .build 61 #[(2, .tmp 5), (3, .tmp 7), (4, .tmp 9), (5, .tmp 11), (7, .tmp 13), (8, .tmp 15), (9, .tmp 17), (10, .tmp 19)]) (h5 : ev (.tmp 5) = .agg (qidC n)) (h7 : ev (.tmp 7) = .int .u32 (n.mode : Int)) (h9 : ev (.tmp 9) = .int .u32 (n.atm : Int)) (h11 : ev (.tmp 11) = .int .u32 (n.mtm : Int)) (h13 : ev (.tmp 13) = .string n.name) (h15 : ev (.tmp 15) = .string n.uid) (h17 : ev (.tmp 17) = .string n.gid) (h19 : ev (.tmp 19) = .string n.muid) : (execOp ev o).run Tryz.prog w = .ok (.value (.agg (statC n 0))) w := by
  refine rrun_build ho ?_
  simp only [List.map_toArray, List.map_cons, List.map_nil, h5, h7, h9, h11, h13, h15, h17, h19]
  exact stat_built n
end

noncomputable def ops_ns1 : Array Oper := match Tryz.f26.body with | some c => (allOps' c).getD 1 #[] | none => #[]
theorem size_ns1 : ops_ns1.size = 19 := by kernel_rfl
set_option maxHeartbeats 4000000 in
theorem ns1_all {w1 : World} {g r : Nat} {n : Nod} {v0 : Value} {Q : Exit → Act → World → Prop} {a : Act} {w : World} (hn : NodOk n) (hg : w1.heap[g]? = some (.cells n.cells 28 (0, 0)))
    (hQ : ∀ d u c a w, Q (.panic c) (a.put d u) w → Q (.panic c) a w) (hF : FrL 30 [(1, ptr g 0), (2, ptr r 0), (0, v0)] a) (hS : Below w1.heap.size w1 w)
    (hE : ∀ a w' k, FrL 30 ((3, ptr k 0) :: [(1, ptr g 0), (2, ptr r 0), (0, v0)]) a → Below w1.heap.size w1 w' → w'.heap[k]? = some (.cells (statC n 0) 61 (0, 0)) → w1.heap.size ≤ k → Q .normal a w') :
    wpAnyH Tryz.prog .any ops_ns1 Q (Below w1.heap.size w1) 19 (Array.replicate 19 false) a w := by
  have hb0 : ∀ w, Below w1.heap.size w1 w → w.heap[g]? = some (.cells n.cells 28 (0, 0)) := fun w h => (h.block _ (lt_of_block hg)).trans hg
  refine hst (i := 0) (o := ops_ns1[0]'(show 0 < ops_ns1.size by rw [size_ns1]; decide)) hF 4 true (.agg n.cells) (Array.getElem?_eq_getElem (show 0 < ops_ns1.size by rw [size_ns1]; decide)) (by kernel_rfl) (by decide) (by kernel_rfl) (by kernel_rfl) (by kernel_rfl) (hQ _ _) (want_n (by kernel_rfl)) (fun hW w hS => rrun_load (ty := 28) (x := .tmp 1) (by kernel_rfl) (hF.ev 1 (ptr g 0) rfl) (rld_nnode (range_wholeP (hb0 w hS)))) hS (fun a hF => ?_)
  rw [show cond true (.agg n.cells) undef = .agg n.cells from rfl] at hF
  refine hst (i := 2) (o := ops_ns1[2]'(show 2 < ops_ns1.size by rw [size_ns1]; decide)) hF 6 true (ptr g 2) (Array.getElem?_eq_getElem (show 2 < ops_ns1.size by rw [size_ns1]; decide)) (by kernel_rfl) (by decide) (by kernel_rfl) (by kernel_rfl) (by kernel_rfl) (hQ _ _) (want_n (by kernel_rfl)) (fun hW w hS => rrun_fld (T := 28) (x := .tmp 1) (f := 2) (by kernel_rfl) (hF.ev 1 (ptr g 0) rfl) (by kernel_rfl)) hS (fun a hF => ?_)
  rw [show cond true (ptr g 2) undef = ptr g 2 from rfl] at hF
  refine hst (i := 3) (o := ops_ns1[3]'(show 3 < ops_ns1.size by rw [size_ns1]; decide)) hF 7 true (.int .u32 ((n.mode : Nat) : Int)) (Array.getElem?_eq_getElem (show 3 < ops_ns1.size by rw [size_ns1]; decide)) (by kernel_rfl) (by decide) (by kernel_rfl) (by kernel_rfl) (by kernel_rfl) (hQ _ _) (want_n (by kernel_rfl)) (fun hW w hS => rrun_load (ty := 26) (x := .tmp 6) (by kernel_rfl) (hF.ev 6 (ptr g 2) rfl) (rld_u32 (block_cell (hb0 w hS) 2))) hS (fun a hF => ?_)
  rw [show cond true (.int .u32 ((n.mode : Nat) : Int)) undef = .int .u32 ((n.mode : Nat) : Int) from rfl] at hF
  refine hst (i := 4) (o := ops_ns1[4]'(show 4 < ops_ns1.size by rw [size_ns1]; decide)) hF 8 true (ptr g 3) (Array.getElem?_eq_getElem (show 4 < ops_ns1.size by rw [size_ns1]; decide)) (by kernel_rfl) (by decide) (by kernel_rfl) (by kernel_rfl) (by kernel_rfl) (hQ _ _) (want_n (by kernel_rfl)) (fun hW w hS => rrun_fld (T := 28) (x := .tmp 1) (f := 3) (by kernel_rfl) (hF.ev 1 (ptr g 0) rfl) (by kernel_rfl)) hS (fun a hF => ?_)
  rw [show cond true (ptr g 3) undef = ptr g 3 from rfl] at hF
  refine hst (i := 5) (o := ops_ns1[5]'(show 5 < ops_ns1.size by rw [size_ns1]; decide)) hF 9 true (.int .u32 ((n.atm : Nat) : Int)) (Array.getElem?_eq_getElem (show 5 < ops_ns1.size by rw [size_ns1]; decide)) (by kernel_rfl) (by decide) (by kernel_rfl) (by kernel_rfl) (by kernel_rfl) (hQ _ _) (want_n (by kernel_rfl)) (fun hW w hS => rrun_load (ty := 26) (x := .tmp 8) (by kernel_rfl) (hF.ev 8 (ptr g 3) rfl) (rld_u32 (block_cell (hb0 w hS) 3))) hS (fun a hF => ?_)
  rw [show cond true (.int .u32 ((n.atm : Nat) : Int)) undef = .int .u32 ((n.atm : Nat) : Int) from rfl] at hF
  refine hst (i := 6) (o := ops_ns1[6]'(show 6 < ops_ns1.size by rw [size_ns1]; decide)) hF 10 true (ptr g 4) (Array.getElem?_eq_getElem (show 6 < ops_ns1.size by rw [size_ns1]; decide)) (by kernel_rfl) (by decide) (by kernel_rfl) (by kernel_rfl) (by kernel_rfl) (hQ _ _) (want_n (by kernel_rfl)) (fun hW w hS => rrun_fld (T := 28) (x := .tmp 1) (f := 4) (by kernel_rfl) (hF.ev 1 (ptr g 0) rfl) (by kernel_rfl)) hS (fun a hF => ?_)
  rw [show cond true (ptr g 4) undef = ptr g 4 from rfl] at hF
  refine hst (i := 7) (o := ops_ns1[7]'(show 7 < ops_ns1.size by rw [size_ns1]; decide)) hF 11 true (.int .u32 ((n.mtm : Nat) : Int)) (Array.getElem?_eq_getElem (show 7 < ops_ns1.size by rw [size_ns1]; decide)) (by kernel_rfl) (by decide) (by kernel_rfl) (by kernel_rfl) (by kernel_rfl) (hQ _ _) (want_n (by kernel_rfl)) (fun hW w hS => rrun_load (ty := 26) (x := .tmp 10) (by kernel_rfl) (hF.ev 10 (ptr g 4) rfl) (rld_u32 (block_cell (hb0 w hS) 4))) hS (fun a hF => ?_)
  rw [show cond true (.int .u32 ((n.mtm : Nat) : Int)) undef = .int .u32 ((n.mtm : Nat) : Int) from rfl] at hF
  refine hst (i := 8) (o := ops_ns1[8]'(show 8 < ops_ns1.size by rw [size_ns1]; decide)) hF 12 true (ptr g 5) (Array.getElem?_eq_getElem (show 8 < ops_ns1.size by rw [size_ns1]; decide)) (by kernel_rfl) (by decide) (by kernel_rfl) (by kernel_rfl) (by kernel_rfl) (hQ _ _) (want_n (by kernel_rfl)) (fun hW w hS => rrun_fld (T := 28) (x := .tmp 1) (f := 5) (by kernel_rfl) (hF.ev 1 (ptr g 0) rfl) (by kernel_rfl)) hS (fun a hF => ?_)
  rw [show cond true (ptr g 5) undef = ptr g 5 from rfl] at hF
  refine hst (i := 9) (o := ops_ns1[9]'(show 9 < ops_ns1.size by rw [size_ns1]; decide)) hF 13 true (.string n.name) (Array.getElem?_eq_getElem (show 9 < ops_ns1.size by rw [size_ns1]; decide)) (by kernel_rfl) (by decide) (by kernel_rfl) (by kernel_rfl) (by kernel_rfl) (hQ _ _) (want_n (by kernel_rfl)) (fun hW w hS => rrun_load (ty := 9) (x := .tmp 12) (by kernel_rfl) (hF.ev 12 (ptr g 5) rfl) (rld_str (block_cell (hb0 w hS) 5))) hS (fun a hF => ?_)
  rw [show cond true (.string n.name) undef = .string n.name from rfl] at hF
  refine hst (i := 10) (o := ops_ns1[10]'(show 10 < ops_ns1.size by rw [size_ns1]; decide)) hF 14 true (ptr g 6) (Array.getElem?_eq_getElem (show 10 < ops_ns1.size by rw [size_ns1]; decide)) (by kernel_rfl) (by decide) (by kernel_rfl) (by kernel_rfl) (by kernel_rfl) (hQ _ _) (want_n (by kernel_rfl)) (fun hW w hS => rrun_fld (T := 28) (x := .tmp 1) (f := 6) (by kernel_rfl) (hF.ev 1 (ptr g 0) rfl) (by kernel_rfl)) hS (fun a hF => ?_)
  rw [show cond true (ptr g 6) undef = ptr g 6 from rfl] at hF
  refine hst (i := 11) (o := ops_ns1[11]'(show 11 < ops_ns1.size by rw [size_ns1]; decide)) hF 15 true (.string n.uid) (Array.getElem?_eq_getElem (show 11 < ops_ns1.size by rw [size_ns1]; decide)) (by kernel_rfl) (by decide) (by kernel_rfl) (by kernel_rfl) (by kernel_rfl) (hQ _ _) (want_n (by kernel_rfl)) (fun hW w hS => rrun_load (ty := 9) (x := .tmp 14) (by kernel_rfl) (hF.ev 14 (ptr g 6) rfl) (rld_str (block_cell (hb0 w hS) 6))) hS (fun a hF => ?_)
  rw [show cond true (.string n.uid) undef = .string n.uid from rfl] at hF
  refine hst (i := 12) (o := ops_ns1[12]'(show 12 < ops_ns1.size by rw [size_ns1]; decide)) hF 16 true (ptr g 7) (Array.getElem?_eq_getElem (show 12 < ops_ns1.size by rw [size_ns1]; decide)) (by kernel_rfl) (by decide) (by kernel_rfl) (by kernel_rfl) (by kernel_rfl) (hQ _ _) (want_n (by kernel_rfl)) (fun hW w hS => rrun_fld (T := 28) (x := .tmp 1) (f := 7) (by kernel_rfl) (hF.ev 1 (ptr g 0) rfl) (by kernel_rfl)) hS (fun a hF => ?_)
  rw [show cond true (ptr g 7) undef = ptr g 7 from rfl] at hF
  refine hst (i := 13) (o := ops_ns1[13]'(show 13 < ops_ns1.size by rw [size_ns1]; decide)) hF 17 true (.string n.gid) (Array.getElem?_eq_getElem (show 13 < ops_ns1.size by rw [size_ns1]; decide)) (by kernel_rfl) (by decide) (by kernel_rfl) (by kernel_rfl) (by kernel_rfl) (hQ _ _) (want_n (by kernel_rfl)) (fun hW w hS => rrun_load (ty := 9) (x := .tmp 16) (by kernel_rfl) (hF.ev 16 (ptr g 7) rfl) (rld_str (block_cell (hb0 w hS) 7))) hS (fun a hF => ?_)
  rw [show cond true (.string n.gid) undef = .string n.gid from rfl] at hF
  refine hst (i := 14) (o := ops_ns1[14]'(show 14 < ops_ns1.size by rw [size_ns1]; decide)) hF 18 true (ptr g 8) (Array.getElem?_eq_getElem (show 14 < ops_ns1.size by rw [size_ns1]; decide)) (by kernel_rfl) (by decide) (by kernel_rfl) (by kernel_rfl) (by kernel_rfl) (hQ _ _) (want_n (by kernel_rfl)) (fun hW w hS => rrun_fld (T := 28) (x := .tmp 1) (f := 8) (by kernel_rfl) (hF.ev 1 (ptr g 0) rfl) (by kernel_rfl)) hS (fun a hF => ?_)
  rw [show cond true (ptr g 8) undef = ptr g 8 from rfl] at hF
  refine hst (i := 15) (o := ops_ns1[15]'(show 15 < ops_ns1.size by rw [size_ns1]; decide)) hF 19 true (.string n.muid) (Array.getElem?_eq_getElem (show 15 < ops_ns1.size by rw [size_ns1]; decide)) (by kernel_rfl) (by decide) (by kernel_rfl) (by kernel_rfl) (by kernel_rfl) (hQ _ _) (want_n (by kernel_rfl)) (fun hW w hS => rrun_load (ty := 9) (x := .tmp 18) (by kernel_rfl) (hF.ev 18 (ptr g 8) rfl) (rld_str (block_cell (hb0 w hS) 8))) hS (fun a hF => ?_)
  rw [show cond true (.string n.muid) undef = .string n.muid from rfl] at hF
  refine wpAnyH_all (rs := [1, 17]) (by kernel_rfl) (by simp) fun j hj => ?_
  have hj2 : j = 1 ∨ j = 17 := by simpa using hj
  rcases hj2 with rfl | rfl
  · skip
    refine hdoc (i := 1) (o := ops_ns1[1]'(show 1 < ops_ns1.size by rw [size_ns1]; decide)) (R := fun v w' => v = .agg (qidC n) ∧ Below w.heap.size w w') hF 5 (Array.getElem?_eq_getElem (show 1 < ops_ns1.size by rw [size_ns1]; decide)) (by kernel_rfl) (by decide) (want_n (by kernel_rfl)) ⟨29, #[.agg n.cells], rrun_call1 (fn := 29) (t := 28) rfl (by kernel_rfl) (by kernel_rfl) (hF.ev 4 _ rfl), (nqid_any n w hn).mono (by rintro e w' ⟨rfl, hb⟩; exact ⟨_, rfl, rfl, hb⟩)⟩ ?_
    rintro _ a wc ⟨rfl, hb⟩ hF
    replace hS := hS.trans (hb.mono hS.size)
    refine ⟨hS, ?_⟩
    clear hb
    refine hst (i := 16) (o := ops_ns1[16]'(show 16 < ops_ns1.size by rw [size_ns1]; decide)) hF 20 true (.agg (statC n 0)) (Array.getElem?_eq_getElem (show 16 < ops_ns1.size by rw [size_ns1]; decide)) (by kernel_rfl) (by decide) (by kernel_rfl) (by kernel_rfl) (by kernel_rfl) (hQ _ _) (want_n (by kernel_rfl)) (fun hW w hS => rrun_statbuild (by kernel_rfl) (hF.ev 5 _ rfl) (hF.ev 7 _ rfl) (hF.ev 9 _ rfl) (hF.ev 11 _ rfl) (hF.ev 13 _ rfl) (hF.ev 15 _ rfl) (hF.ev 17 _ rfl) (hF.ev 19 _ rfl)) hS (fun a hF => ?_)
    rw [show cond true (Value.agg (statC n 0)) undef = .agg (statC n 0) from rfl] at hF
    refine wpAnyH_all (rs := [17]) (by kernel_rfl) (by simp) fun j hj => ?_
    obtain rfl : j = 17 := by simpa using hj
    refine hdo (i := 17) (o := ops_ns1[17]'(show 17 < ops_ns1.size by rw [size_ns1]; decide)) hF 3 (ptr wc.heap.size 0) (wc.alloc (.cells #[.int .u16 0, .int .u32 0, .int .u8 0, .int .u32 0, .int .u64 0, .int .u32 0, .int .u32 0, .int .u32 0, .int .u64 0, .string ⟨#[]⟩, .string ⟨#[]⟩, .string ⟨#[]⟩, .string ⟨#[]⟩] 61)) (Array.getElem?_eq_getElem (show 17 < ops_ns1.size by rw [size_ns1]; decide)) (by kernel_rfl) (by decide) (want_n (by kernel_rfl)) (rrun_alloc (t := 61) (z := .agg #[.int .u16 0, .int .u32 0, .int .u8 0, .int .u32 0, .int .u64 0, .int .u32 0, .int .u32 0, .int .u32 0, .int .u64 0, .string ⟨#[]⟩, .string ⟨#[]⟩, .string ⟨#[]⟩, .string ⟨#[]⟩]) (by kernel_rfl) (by kernel_rfl)) (fun a hF => ?_)
    have gA := hS.size
    have fA := heap_alloc_new wc (.cells #[.int .u16 0, .int .u32 0, .int .u8 0, .int .u32 0, .int .u64 0, .int .u32 0, .int .u32 0, .int .u32 0, .int .u64 0, .string ⟨#[]⟩, .string ⟨#[]⟩, .string ⟨#[]⟩, .string ⟨#[]⟩] 61)
    replace hS := hS.alloc hS.size (.cells #[.int .u16 0, .int .u32 0, .int .u8 0, .int .u32 0, .int .u64 0, .int .u32 0, .int .u32 0, .int .u32 0, .int .u64 0, .string ⟨#[]⟩, .string ⟨#[]⟩, .string ⟨#[]⟩, .string ⟨#[]⟩] 61)
    refine ⟨hS, ?_⟩
    generalize wc.alloc (.cells #[.int .u16 0, .int .u32 0, .int .u8 0, .int .u32 0, .int .u64 0, .int .u32 0, .int .u32 0, .int .u32 0, .int .u64 0, .string ⟨#[]⟩, .string ⟨#[]⟩, .string ⟨#[]⟩, .string ⟨#[]⟩] 61) = wa at hS fA ⊢
    generalize wc.heap.size = k at gA fA hF
    refine wpAnyH_all (rs := [18]) (by kernel_rfl) (by simp) fun j hj => ?_
    obtain rfl : j = 18 := by simpa using hj
    refine hdo0 (o := ops_ns1[18]'(show 18 < ops_ns1.size by rw [size_ns1]; decide)) (wa.setRow k (statC n 0)) (Array.getElem?_eq_getElem (show 18 < ops_ns1.size by rw [size_ns1]; decide)) (by kernel_rfl) (want_n (by kernel_rfl)) (rrun_store (t := 61) (x := .tmp 3) (y := .tmp 20) (by kernel_rfl) (hF.ev 3 _ rfl) (hF.ev 20 _ rfl) fA (by kernel_rfl) rfl (by kernel_rfl)) ?_
    have hS2 := below_setRow (g := k) hS gA (statC n 0)
    refine ⟨hS2, ?_⟩
    exact wpAnyH_done (by kernel_rfl) (hE _ _ k (hF.sub ((3, ptr k 0) :: [(1, ptr g 0), (2, ptr r 0), (0, v0)]) ⟨rfl, rfl, rfl, rfl, trivial⟩) hS2 (setRow_heap wa k _ _ _ _ fA) gA) _
  · skip
    refine hdo (i := 17) (o := ops_ns1[17]'(show 17 < ops_ns1.size by rw [size_ns1]; decide)) hF 3 (ptr w.heap.size 0) (w.alloc (.cells #[.int .u16 0, .int .u32 0, .int .u8 0, .int .u32 0, .int .u64 0, .int .u32 0, .int .u32 0, .int .u32 0, .int .u64 0, .string ⟨#[]⟩, .string ⟨#[]⟩, .string ⟨#[]⟩, .string ⟨#[]⟩] 61)) (Array.getElem?_eq_getElem (show 17 < ops_ns1.size by rw [size_ns1]; decide)) (by kernel_rfl) (by decide) (want_n (by kernel_rfl)) (rrun_alloc (t := 61) (z := .agg #[.int .u16 0, .int .u32 0, .int .u8 0, .int .u32 0, .int .u64 0, .int .u32 0, .int .u32 0, .int .u32 0, .int .u64 0, .string ⟨#[]⟩, .string ⟨#[]⟩, .string ⟨#[]⟩, .string ⟨#[]⟩]) (by kernel_rfl) (by kernel_rfl)) (fun a hF => ?_)
    have gA := hS.size
    have fA := heap_alloc_new w (.cells #[.int .u16 0, .int .u32 0, .int .u8 0, .int .u32 0, .int .u64 0, .int .u32 0, .int .u32 0, .int .u32 0, .int .u64 0, .string ⟨#[]⟩, .string ⟨#[]⟩, .string ⟨#[]⟩, .string ⟨#[]⟩] 61)
    replace hS := hS.alloc hS.size (.cells #[.int .u16 0, .int .u32 0, .int .u8 0, .int .u32 0, .int .u64 0, .int .u32 0, .int .u32 0, .int .u32 0, .int .u64 0, .string ⟨#[]⟩, .string ⟨#[]⟩, .string ⟨#[]⟩, .string ⟨#[]⟩] 61)
    refine ⟨hS, ?_⟩
    generalize w.alloc (.cells #[.int .u16 0, .int .u32 0, .int .u8 0, .int .u32 0, .int .u64 0, .int .u32 0, .int .u32 0, .int .u32 0, .int .u64 0, .string ⟨#[]⟩, .string ⟨#[]⟩, .string ⟨#[]⟩, .string ⟨#[]⟩] 61) = wa at hS fA ⊢
    generalize w.heap.size = k at gA fA hF
    refine wpAnyH_all (rs := [1]) (by kernel_rfl) (by simp) fun j hj => ?_
    obtain rfl : j = 1 := by simpa using hj
    refine hdoc (i := 1) (o := ops_ns1[1]'(show 1 < ops_ns1.size by rw [size_ns1]; decide)) (R := fun v w' => v = .agg (qidC n) ∧ Below wa.heap.size wa w') hF 5 (Array.getElem?_eq_getElem (show 1 < ops_ns1.size by rw [size_ns1]; decide)) (by kernel_rfl) (by decide) (want_n (by kernel_rfl)) ⟨29, #[.agg n.cells], rrun_call1 (fn := 29) (t := 28) rfl (by kernel_rfl) (by kernel_rfl) (hF.ev 4 _ rfl), (nqid_any n wa hn).mono (by rintro e w' ⟨rfl, hb⟩; exact ⟨_, rfl, rfl, hb⟩)⟩ ?_
    rintro _ a wc ⟨rfl, hb⟩ hF
    replace fA := (hb.block _ (lt_of_block fA)).trans fA
    replace hS := hS.trans (hb.mono hS.size)
    refine ⟨hS, ?_⟩
    clear hb
    refine hst (i := 16) (o := ops_ns1[16]'(show 16 < ops_ns1.size by rw [size_ns1]; decide)) hF 20 true (.agg (statC n 0)) (Array.getElem?_eq_getElem (show 16 < ops_ns1.size by rw [size_ns1]; decide)) (by kernel_rfl) (by decide) (by kernel_rfl) (by kernel_rfl) (by kernel_rfl) (hQ _ _) (want_n (by kernel_rfl)) (fun hW w hS => rrun_statbuild (by kernel_rfl) (hF.ev 5 _ rfl) (hF.ev 7 _ rfl) (hF.ev 9 _ rfl) (hF.ev 11 _ rfl) (hF.ev 13 _ rfl) (hF.ev 15 _ rfl) (hF.ev 17 _ rfl) (hF.ev 19 _ rfl)) hS (fun a hF => ?_)
    rw [show cond true (Value.agg (statC n 0)) undef = .agg (statC n 0) from rfl] at hF
    refine wpAnyH_all (rs := [18]) (by kernel_rfl) (by simp) fun j hj => ?_
    obtain rfl : j = 18 := by simpa using hj
    refine hdo0 (o := ops_ns1[18]'(show 18 < ops_ns1.size by rw [size_ns1]; decide)) (wc.setRow k (statC n 0)) (Array.getElem?_eq_getElem (show 18 < ops_ns1.size by rw [size_ns1]; decide)) (by kernel_rfl) (want_n (by kernel_rfl)) (rrun_store (t := 61) (x := .tmp 3) (y := .tmp 20) (by kernel_rfl) (hF.ev 3 _ rfl) (hF.ev 20 _ rfl) fA (by kernel_rfl) rfl (by kernel_rfl)) ?_
    have hS2 := below_setRow (g := k) hS gA (statC n 0)
    refine ⟨hS2, ?_⟩
    exact wpAnyH_done (by kernel_rfl) (hE _ _ k (hF.sub ((3, ptr k 0) :: [(1, ptr g 0), (2, ptr r 0), (0, v0)]) ⟨rfl, rfl, rfl, rfl, trivial⟩) hS2 (setRow_heap wc k _ _ _ _ fA) gA) _
end
end Go.Proofs.YtpmlhmficmillaaGreat

namespace Go.Proofs.YtpmlhmficmillaaGreat
section
open Go.RowKit
set_option maxRecDepth 100000
set_option linter.unusedVariables false

def lenN (n : Nod) : Nat := if dirB n then 0 else n.data.size
theorem statC_one (n : Nod) (k : Nat) : (statC n k).all (·.oneCell') = true := by kernel_rfl
set_option maxHeartbeats 3200000 in
theorem nstat_any (n : Nod) (w : World) (hn : NodOk n) (hd : n.data.size ≤ 1000000) :
    Calls Tryz.prog 26 #[.agg n.cells] w fun e w' => e = .returned (.agg (statC n (lenN n))) ∧ Below w.heap.size w w' := by
  have mixed : Tryz.prog.follows Departure.mixedOrders = true := by first | kernel_rfl | decide
  obtain ⟨W, hW⟩ : ∃ W, W = (w.alloc (.cells n.cells 28)).alloc (.cells #[.int .u16 0, .int .u32 0, .int .u8 0, .int .u32 0, .int .u64 0, .int .u32 0, .int .u32 0, .int .u32 0, .int .u64 0, .string ⟨#[]⟩, .string ⟨#[]⟩, .string ⟨#[]⟩, .string ⟨#[]⟩] 61) := ⟨_, rfl⟩
  have hb0 : Below w.heap.size w W := by rw [hW]; exact ((Below.refl w.heap.size w).alloc (Nat.le_refl _) _).alloc (by simp) _
  have hN := hid (show W.heap[w.heap.size]? = some (.cells n.cells 28 (0, 0)) by rw [hW, heap_alloc_old _ _ (by simp), heap_alloc_new])
  have hR := hid (show W.heap[w.heap.size + 1]? = some (.cells #[.int .u16 0, .int .u32 0, .int .u8 0, .int .u32 0, .int .u64 0, .int .u32 0, .int .u32 0, .int .u32 0, .int .u64 0, .string ⟨#[]⟩, .string ⟨#[]⟩, .string ⟨#[]⟩, .string ⟨#[]⟩] 61 (0, 0)) by rw [hW]; exact heap2 _ _ _)
  have hsz : W.heap.size = w.heap.size + 2 := by rw [hW]; simp
  replace hb0 := hid hb0
  replace hn := hid hn
  go_enter Tryz.func26, Tryz.ntmps26
  go_upto_region 1 with (rw [← hW]; replace hW := hid hW)
  try (rw [← hW]; replace hW := hid hW)
  go_cut [3] (fun s wx => ∃ k, s = ptr k 0 ∧ Hid (Below W.drew.heap.size W.drew wx ∧ wx.heap[k]? = some (.cells (statC n 0) 61 (0, 0)) ∧ W.drew.heap.size ≤ k))
  case first => as_aux_lemma =>
    rename_i J K' hJ hK
    refine wp_region_noPanic ?_
    refine wp_region_held (S := (Below W.drew.heap.size W.drew)) mixed ?_
    refine (show wpAnyH Tryz.prog .any ops_ns1 _ _ _ _ _ _ → _ from fun h => h) ?_
    refine ns1_all (w1 := W.drew) (g := w.heap.size) (r := w.heap.size + 1) (n := n) hn.out hN.out (fun _ _ _ _ _ h => h) (FrL.of_all (by rfl) rfl ⟨rfl, rfl, rfl, trivial⟩) (Below.refl _ _) (fun a w' k hF hS hk hge => ?_)
    exact hK _ _ (Met.intro (hJ _ _ ⟨ptr k 0, a.tmps.getD 4 undef, a.tmps.getD 5 undef, a.tmps.getD 6 undef, a.tmps.getD 7 undef, a.tmps.getD 8 undef, a.tmps.getD 9 undef, a.tmps.getD 10 undef, a.tmps.getD 11 undef, a.tmps.getD 12 undef, a.tmps.getD 13 undef, a.tmps.getD 14 undef, a.tmps.getD 15 undef, a.tmps.getD 16 undef, a.tmps.getD 17 undef, a.tmps.getD 18 undef, a.tmps.getD 19 undef, a.tmps.getD 20 undef, a.tmps.getD 21 undef, a.tmps.getD 22 undef, a.tmps.getD 23 undef, a.tmps.getD 24 undef, a.tmps.getD 25 undef, a.tmps.getD 26 undef, a.tmps.getD 27 undef, a.tmps.getD 28 undef, a.tmps.getD 29 undef, ⟨k, rfl, hid ⟨hS, hk, hge⟩⟩, frame_eq hF _ (by rfl) ⟨hF.get 0 _ rfl, hF.get 1 _ rfl, hF.get 2 _ rfl, hF.get 3 _ rfl, hF.any 4 (by decide), hF.any 5 (by decide), hF.any 6 (by decide), hF.any 7 (by decide), hF.any 8 (by decide), hF.any 9 (by decide), hF.any 10 (by decide), hF.any 11 (by decide), hF.any 12 (by decide), hF.any 13 (by decide), hF.any 14 (by decide), hF.any 15 (by decide), hF.any 16 (by decide), hF.any 17 (by decide), hF.any 18 (by decide), hF.any 19 (by decide), hF.any 20 (by decide), hF.any 21 (by decide), hF.any 22 (by decide), hF.any 23 (by decide), hF.any 24 (by decide), hF.any 25 (by decide), hF.any 26 (by decide), hF.any 27 (by decide), hF.any 28 (by decide), hF.any 29 (by decide), trivial⟩⟩))
  case rest =>
    obtain ⟨k, rfl, hC⟩ := hcut
    obtain ⟨hb, hk, hge⟩ := hC.out
    unfold ptr
    have hge2 : w.heap.size + 2 ≤ k := by have : W.drew.heap.size = W.heap.size := rfl; omega
    have hB := hid (hb0.out.drew.trans (hb.mono (show w.heap.size ≤ W.drew.heap.size from by have : W.drew.heap.size = W.heap.size := rfl; omega)))
    have hN2 := hid ((hb.block _ (show w.heap.size < W.drew.heap.size from lt_of_block hN.out)).trans hN.out)
    have hR2 := hid ((hb.block _ (show w.heap.size + 1 < W.drew.heap.size from lt_of_block hR.out)).trans hR.out)
    have hdir := hid (ndir_any n wc hn.out)
    obtain ⟨bD, hbD⟩ : ∃ b, b = dirB n := ⟨_, rfl⟩
    rw [← hbD] at hdir
    replace hbD := hid hbD
    replace hk := hid hk
    clear hC hb hN hR hge
    go_wp2_with (refine wpList_load_row (by rfl) 28 (.tmp 1) (by rfl) w.heap.size (by rfl) 28 n.cells (0, 0) _ hN2.out Tryz.underlying28 (by rfl) (by kernel_rfl) ?_)
    refine hdir.out.mono ?_
    rintro e w3 ⟨rfl, hb3⟩
    have hB3 := hid (sn hB.out hb3)
    have hk3 := hid ((hb3.block _ (lt_of_block hk.out)).trans hk.out)
    have hN3 := hid ((hb3.block _ (lt_of_block hN2.out)).trans hN2.out)
    have hR3 := hid ((hb3.block _ (lt_of_block hR2.out)).trans hR2.out)
    clear hdir hb3 hk hN2 hR2 hB
    cases bD with
    | true =>
      have hL := hid (show lenN n = 0 by unfold lenN; rw [← hbD.out]; rfl)
      have hF := hid (setRow_heap w3 (w.heap.size + 1) _ (statC n 0) _ _ hR3.out)
      have hBF := hid (below_setRow (g := w.heap.size + 1) hB3.out (by omega) (statC n 0))
      go_wp2_with (first
        | (refine wpList_load_row (by rfl) 61 (.tmp 3) (by rfl) k (by rfl) 61 (statC n 0) (0, 0) _ hk3.out Tryz.underlying61 (by rfl) (by kernel_rfl) ?_)
        | (refine wpList_store_row (by rfl) 61 (.tmp 2) (.tmp 29) (by rfl) (w.heap.size + 1) (statC n 0) (by rfl) (by rfl) 61 _ hR3.out (by kernel_rfl) (by kernel_rfl) (statC_one n 0) ?_))
      refine bodyPost_ret (results_cell_row rfl _ _ (w.heap.size + 1) _ _ _ _ rfl hF.out Tryz.underlying61 rfl (by kernel_rfl)) rfl ?_
      exact ⟨by rw [hL.out], hBF.out⟩
    | false =>
      have hL := hid (show lenN n = n.data.size by unfold lenN; rw [← hbD.out]; rfl)
      have z11 : w3.cell? ⟨w.heap.size, 11, none⟩ = some (.string n.data) := block_cell hN3.out 11
      have y8 : w3.cell? ⟨k, 8, none⟩ = some (.int .u64 0) := block_cell hk3.out 8
      have y8f : w3.frozen? ⟨k, 8, none⟩ = false := block_free hk3.out 8
      have cv : IntKind.u64.wrap ((n.data.size : Nat) : Int) = ((n.data.size : Nat) : Int) := IntWalk.u64_in _ (by omega)
      obtain ⟨X, hX⟩ : ∃ X, X = w3.setCell ⟨k, 8, none⟩ (.int .u64 (n.data.size : Int)) := ⟨_, rfl⟩
      have hkX := hid (show X.heap[k]? = some (.cells (statC n n.data.size) 61 (0, 0)) by rw [hX]; exact block_set hk3.out 8 _)
      have hRX := hid (show X.heap[w.heap.size + 1]? = some (.cells #[.int .u16 0, .int .u32 0, .int .u8 0, .int .u32 0, .int .u64 0, .int .u32 0, .int .u32 0, .int .u32 0, .int .u64 0, .string ⟨#[]⟩, .string ⟨#[]⟩, .string ⟨#[]⟩, .string ⟨#[]⟩] 61 (0, 0)) by rw [hX]; exact (block_set_other (by show w.heap.size + 1 ≠ k; omega)).trans hR3.out)
      have hBX := hid (show Below w.heap.size w X by rw [hX]; exact hB3.out.setCell (p := ⟨k, 8, none⟩) (by show w.heap.size ≤ k; omega) _)
      have hF := hid (setRow_heap X (w.heap.size + 1) _ (statC n n.data.size) _ _ hRX.out)
      have hBF := hid (below_setRow (g := w.heap.size + 1) hBX.out (by omega) (statC n n.data.size))
      go_wp2_with (first
        | (rw [← hX]; replace hX := hid hX)
        | (refine wpList_load_row (by rfl) 61 (.tmp 3) (by rfl) k (by rfl) 61 (statC n n.data.size) (0, 0) _ hkX.out Tryz.underlying61 (by rfl) (by kernel_rfl) ?_)
        | (refine wpList_store_row (by rfl) 61 (.tmp 2) (.tmp 29) (by rfl) (w.heap.size + 1) (statC n n.data.size) (by rfl) (by rfl) 61 _ hRX.out (by kernel_rfl) (by kernel_rfl) (statC_one n _) ?_))
      refine bodyPost_ret (results_cell_row rfl _ _ (w.heap.size + 1) _ _ _ _ rfl hF.out Tryz.underlying61 rfl (by kernel_rfl)) rfl ?_
      exact ⟨by rw [hL.out], hBF.out⟩
end
end Go.Proofs.YtpmlhmficmillaaGreat
