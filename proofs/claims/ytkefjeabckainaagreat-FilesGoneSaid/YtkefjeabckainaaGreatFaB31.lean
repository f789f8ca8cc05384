/- The qid of a node, in the program and in the reference. Conditions: numbers in their types. And the texts behind it. -/
import Derived.Test.YtkefjeabckainaaGreatFaB04
import Derived.Test.YtkefjeabckainaaGreatFaB09
import Derived.Test.YtkefjeabckainaaGreatFaB19
import Derived.Test.YtkefjeabckainaaGreatFaB28
import Derived.Test.YtkefjeabckainaaGreatFaB23
import Derived.Test.YtkefjeabckainaaGreatFaB30
namespace Go.Proofs.YtkefjeabckainaaGreat
section
open Go.RowKit
set_option maxRecDepth 100000
set_option linter.unusedVariables false

def typeN (m : Nat) : Nat := m / 16777216 &&& 224
theorem type_bits (m : Nat) (hm : m < 4294967296) : bits .and .u8 ((m : Int) / 16777216) 224 = ((typeN m : Nat) : Int) := by
  rw [show (m : Int) / 16777216 = ((m / 16777216 : Nat) : Int) from rfl, show (224 : Int) = ((224 : Nat) : Int) from rfl, u8_and_nat _ _ (by omega) (by omega)]
  rfl

theorem qtype_any (m : Nat) (w : World) (hm : m < 4294967296) :
    Calls Tryz.prog 153 #[.int .u32 (m : Int)] w fun e w' => e = .returned (.int .u8 (typeN m : Int)) ∧ w' = w := by
  have hE := hid (type_bits m hm)
  go_enter Tryz.func153, Tryz.ntmps153
  go_wp2_with fail
  go_ret
  exact ⟨ret_int (by rw [hE.out]), rfl⟩

def qidC (n : Nod) : Array Value := #[.int .u8 (typeN n.mode : Int), .int .u32 (n.vers : Int), .int .u64 (n.path : Int)]

set_option maxHeartbeats 1600000 in
theorem nqid_any (n : Nod) (w : World) (hn : NodOk n) :
    Calls Tryz.prog 104 #[.agg n.cells] w fun e w' => e = .returned (.agg (qidC n)) ∧ Below w.heap.size w w' := by
  obtain ⟨W, hW⟩ : ∃ W, W = (w.alloc (.cells n.cells 89)).alloc (.cells #[.int .u8 0, .int .u32 0, .int .u64 0] 51) := ⟨_, rfl⟩
  have hb0 : Below w.heap.size w W := by rw [hW]; exact ((Below.refl w.heap.size w).alloc (Nat.le_refl _) _).alloc (by simp) _
  have hx : W.heap[w.heap.size]? = some (.cells n.cells 89 (0, 0)) := by rw [hW, heap_alloc_old _ _ (by simp), heap_alloc_new]
  have hy : W.heap[w.heap.size + 1]? = some (.cells #[.int .u8 0, .int .u32 0, .int .u64 0] 51 (0, 0)) := by
    rw [hW]
    have := heap_alloc_new (w.alloc (.cells n.cells 89)) (.cells #[.int .u8 0, .int .u32 0, .int .u64 0] 51)
    simpa using this
  have hm := hn.mode
  rw [nod_cells] at hx hW ⊢
  have c0 : W.drew.cell? ⟨w.heap.size, 0, none⟩ = some (.int .u64 (n.path : Int)) := block_cell hx 0
  have c1 : W.drew.cell? ⟨w.heap.size, 1, none⟩ = some (.int .u32 (n.vers : Int)) := block_cell hx 1
  have c2 : W.drew.cell? ⟨w.heap.size, 2, none⟩ = some (.int .u32 (n.mode : Int)) := block_cell hx 2
  have g0 : W.cell? ⟨w.heap.size + 1, 0, none⟩ = some (.int .u8 0) := block_cell hy 0
  have g1 : W.cell? ⟨w.heap.size + 1, 1, none⟩ = some (.int .u32 0) := block_cell hy 1
  have g2 : W.cell? ⟨w.heap.size + 1, 2, none⟩ = some (.int .u64 0) := block_cell hy 2
  have f0 : W.frozen? ⟨w.heap.size + 1, 0, none⟩ = false := block_free hy 0
  have f1 : W.frozen? ⟨w.heap.size + 1, 1, none⟩ = false := block_free hy 1
  have f2 : W.frozen? ⟨w.heap.size + 1, 2, none⟩ = false := block_free hy 2
  have ff0 : W.drew.frozen? ⟨w.heap.size + 1, 0, none⟩ = false := f0
  have gg0 : W.drew.cell? ⟨w.heap.size + 1, 0, none⟩ = some (.int .u8 0) := g0
  have hz4 := hid (block_set (block_set (block_set hy 0 (.int .u8 (typeN n.mode : Int))) 1 (.int .u32 (n.vers : Int))) 2 (.int .u64 (n.path : Int)))
  have hzB := hid (((hb0.setCell (p := ⟨w.heap.size + 1, 0, none⟩) (by simp) (.int .u8 (typeN n.mode : Int))).setCell (p := ⟨w.heap.size + 1, 1, none⟩) (by simp) (.int .u32 (n.vers : Int))).setCell (p := ⟨w.heap.size + 1, 2, none⟩) (by simp) (.int .u64 (n.path : Int))).drew
  have hx9 : Hid ((((W.setCell ⟨w.heap.size + 1, 0, none⟩ (.int .u8 (typeN n.mode : Int))).setCell ⟨w.heap.size + 1, 1, none⟩ (.int .u32 (n.vers : Int))).setCell ⟨w.heap.size + 1, 2, none⟩ (.int .u64 (n.path : Int))).drew.heap[w.heap.size]? = _) := hid ((block_set_other (by show _ ≠ _; simp)).trans ((block_set_other (by show _ ≠ _; simp)).trans ((block_set_other (by show _ ≠ _; simp)).trans hx)))
  have hqt := hid (fun W => qtype_any n.mode W hm)
  replace hx := hid hx
  replace hy := hid hy
  replace hb0 := hid hb0
  replace hn := hid hn
  go_enter Tryz.func104, Tryz.ntmps104
  go_wp2_with (rw [← hW]; replace hW := hid hW)
  go_region_held3 (fun w' => w'.cell? ⟨w.heap.size, 0, none⟩ = some (.int .u64 (n.path : Int)) ∧ w'.cell? ⟨w.heap.size, 1, none⟩ = some (.int .u32 (n.vers : Int)) ∧ w'.cell? ⟨w.heap.size, 2, none⟩ = some (.int .u32 (n.mode : Int)))
    (first | exact ⟨c0, c1, c2⟩ | exact ⟨block_cell hx9.out 0, block_cell hx9.out 1, block_cell hx9.out 2⟩ | go_keep)
    ((go_at_call 153; (with_reducible refine (hqt.out _).mono ?_); rintro e w1 ⟨rfl, rfl⟩))
  clear c0 c1 c2 g0 g1 g2 f0 f1 f2 ff0 gg0
  all_goals
    go_wp2_with fail
    refine bodyPost_ret (results_cell_row rfl _ _ (w.heap.size + 1) _ _ _ _ rfl hz4.out Tryz.underlying51 rfl (by kernel_rfl)) rfl ?_
    exact ⟨rfl, hzB.out⟩

end
end Go.Proofs.YtkefjeabckainaaGreat

namespace Go.Proofs.YtkefjeabckainaaGreat
section
open Go.RowKit
set_option maxRecDepth 100000
set_option linter.unusedVariables false

def statC (n : Nod) (len : Nat) : Array Value := #[.int .u16 0, .int .u32 0, .int .u8 (typeN n.mode : Int), .int .u32 (n.vers : Int), .int .u64 (n.path : Int), .int .u32 (n.mode : Int), .int .u32 (n.atm : Int), .int .u32 (n.mtm : Int), .int .u64 (len : Int), .string n.name, .string n.uid, .string n.gid, .string n.muid]
theorem stat_built (n : Nod) : Tryz.prog.built 53 [(2, .agg (qidC n)), (3, .int .u32 (n.mode : Int)), (4, .int .u32 (n.atm : Int)), (5, .int .u32 (n.mtm : Int)), (7, .string n.name), (8, .string n.uid), (9, .string n.gid), (10, .string n.muid)] = some (statC n 0) := by kernel_rfl
section
variable {o : Oper} {ev : Operand → Value} {w : World}
theorem rrun_build {t : TypeId} {parts : Array (Nat × Operand)} {cells : Array Value} (ho : o.op = .build t parts) (hb : Tryz.prog.built t (parts.map fun (i, x) => (i, ev x)).toList = some cells) : (execOp ev o).run Tryz.prog w = .ok (.value (.agg cells)) w := by
  unfold execOp
  simp only [ho, Sem.run_bind, run_build w t _ cells hb, Result.andThen_ok]
  rfl
theorem rrun_statbuild {n : Nod} (ho : o.op = .build 53 #[(2, .tmp 5), (3, .tmp 7), (4, .tmp 9), (5, .tmp 11), (7, .tmp 13), (8, .tmp 15), (9, .tmp 17), (10, .tmp 19)]) (h5 : ev (.tmp 5) = .agg (qidC n)) (h7 : ev (.tmp 7) = .int .u32 (n.mode : Int)) (h9 : ev (.tmp 9) = .int .u32 (n.atm : Int)) (h11 : ev (.tmp 11) = .int .u32 (n.mtm : Int)) (h13 : ev (.tmp 13) = .string n.name) (h15 : ev (.tmp 15) = .string n.uid) (h17 : ev (.tmp 17) = .string n.gid) (h19 : ev (.tmp 19) = .string n.muid) : (execOp ev o).run Tryz.prog w = .ok (.value (.agg (statC n 0))) w := by
  refine rrun_build ho ?_
  simp only [List.map_toArray, List.map_cons, List.map_nil, h5, h7, h9, h11, h13, h15, h17, h19]
  exact stat_built n
end

noncomputable def ops_ns1 : Array Oper := match Tryz.f52.body with | some c => (allOps' c).getD 1 #[] | none => #[]
theorem size_ns1 : ops_ns1.size = 19 := by kernel_rfl
set_option maxHeartbeats 4000000 in
theorem ns1_all {w1 : World} {g r : Nat} {n : Nod} {v0 : Value} {Q : Exit → Act → World → Prop} {a : Act} {w : World} (hn : NodOk n) (hg : w1.heap[g]? = some (.cells n.cells 89 (0, 0)))
    (hQ : ∀ d u c a w, Q (.panic c) (a.put d u) w → Q (.panic c) a w) (hF : FrL 30 [(1, ptr g 0), (2, ptr r 0), (0, v0)] a) (hS : Below w1.heap.size w1 w)
    (hE : ∀ a w' k, FrL 30 ((3, ptr k 0) :: [(1, ptr g 0), (2, ptr r 0), (0, v0)]) a → Below w1.heap.size w1 w' → w'.heap[k]? = some (.cells (statC n 0) 53 (0, 0)) → w1.heap.size ≤ k → Q .normal a w') :
    wpAnyH Tryz.prog .any ops_ns1 Q (Below w1.heap.size w1) 19 (Array.replicate 19 false) a w := by
  have hb0 : ∀ w, Below w1.heap.size w1 w → w.heap[g]? = some (.cells n.cells 89 (0, 0)) := fun w h => (h.block _ (lt_of_block hg)).trans hg
  refine hst (i := 0) (o := ops_ns1[0]'(show 0 < ops_ns1.size by rw [size_ns1]; decide)) hF 4 true (.agg n.cells) (Array.getElem?_eq_getElem (show 0 < ops_ns1.size by rw [size_ns1]; decide)) (by kernel_rfl) (by decide) (by kernel_rfl) (by kernel_rfl) (by kernel_rfl) (hQ _ _) (want_n (by kernel_rfl)) (fun hW w hS => rrun_load (ty := 89) (x := .tmp 1) (by kernel_rfl) (hF.ev 1 (ptr g 0) rfl) (rld_nnode (range_wholeP (hb0 w hS)))) hS (fun a hF => ?_)
  rw [show cond true (.agg n.cells) undef = .agg n.cells from rfl] at hF
  refine hst (i := 2) (o := ops_ns1[2]'(show 2 < ops_ns1.size by rw [size_ns1]; decide)) hF 6 true (ptr g 2) (Array.getElem?_eq_getElem (show 2 < ops_ns1.size by rw [size_ns1]; decide)) (by kernel_rfl) (by decide) (by kernel_rfl) (by kernel_rfl) (by kernel_rfl) (hQ _ _) (want_n (by kernel_rfl)) (fun hW w hS => rrun_fld (T := 89) (x := .tmp 1) (f := 2) (by kernel_rfl) (hF.ev 1 (ptr g 0) rfl) (by kernel_rfl)) hS (fun a hF => ?_)
  rw [show cond true (ptr g 2) undef = ptr g 2 from rfl] at hF
  refine hst (i := 3) (o := ops_ns1[3]'(show 3 < ops_ns1.size by rw [size_ns1]; decide)) hF 7 true (.int .u32 ((n.mode : Nat) : Int)) (Array.getElem?_eq_getElem (show 3 < ops_ns1.size by rw [size_ns1]; decide)) (by kernel_rfl) (by decide) (by kernel_rfl) (by kernel_rfl) (by kernel_rfl) (hQ _ _) (want_n (by kernel_rfl)) (fun hW w hS => rrun_load (ty := 32) (x := .tmp 6) (by kernel_rfl) (hF.ev 6 (ptr g 2) rfl) (rld_u32 (block_cell (hb0 w hS) 2))) hS (fun a hF => ?_)
  rw [show cond true (.int .u32 ((n.mode : Nat) : Int)) undef = .int .u32 ((n.mode : Nat) : Int) from rfl] at hF
  refine hst (i := 4) (o := ops_ns1[4]'(show 4 < ops_ns1.size by rw [size_ns1]; decide)) hF 8 true (ptr g 3) (Array.getElem?_eq_getElem (show 4 < ops_ns1.size by rw [size_ns1]; decide)) (by kernel_rfl) (by decide) (by kernel_rfl) (by kernel_rfl) (by kernel_rfl) (hQ _ _) (want_n (by kernel_rfl)) (fun hW w hS => rrun_fld (T := 89) (x := .tmp 1) (f := 3) (by kernel_rfl) (hF.ev 1 (ptr g 0) rfl) (by kernel_rfl)) hS (fun a hF => ?_)
  rw [show cond true (ptr g 3) undef = ptr g 3 from rfl] at hF
  refine hst (i := 5) (o := ops_ns1[5]'(show 5 < ops_ns1.size by rw [size_ns1]; decide)) hF 9 true (.int .u32 ((n.atm : Nat) : Int)) (Array.getElem?_eq_getElem (show 5 < ops_ns1.size by rw [size_ns1]; decide)) (by kernel_rfl) (by decide) (by kernel_rfl) (by kernel_rfl) (by kernel_rfl) (hQ _ _) (want_n (by kernel_rfl)) (fun hW w hS => rrun_load (ty := 32) (x := .tmp 8) (by kernel_rfl) (hF.ev 8 (ptr g 3) rfl) (rld_u32 (block_cell (hb0 w hS) 3))) hS (fun a hF => ?_)
  rw [show cond true (.int .u32 ((n.atm : Nat) : Int)) undef = .int .u32 ((n.atm : Nat) : Int) from rfl] at hF
  refine hst (i := 6) (o := ops_ns1[6]'(show 6 < ops_ns1.size by rw [size_ns1]; decide)) hF 10 true (ptr g 4) (Array.getElem?_eq_getElem (show 6 < ops_ns1.size by rw [size_ns1]; decide)) (by kernel_rfl) (by decide) (by kernel_rfl) (by kernel_rfl) (by kernel_rfl) (hQ _ _) (want_n (by kernel_rfl)) (fun hW w hS => rrun_fld (T := 89) (x := .tmp 1) (f := 4) (by kernel_rfl) (hF.ev 1 (ptr g 0) rfl) (by kernel_rfl)) hS (fun a hF => ?_)
  rw [show cond true (ptr g 4) undef = ptr g 4 from rfl] at hF
  refine hst (i := 7) (o := ops_ns1[7]'(show 7 < ops_ns1.size by rw [size_ns1]; decide)) hF 11 true (.int .u32 ((n.mtm : Nat) : Int)) (Array.getElem?_eq_getElem (show 7 < ops_ns1.size by rw [size_ns1]; decide)) (by kernel_rfl) (by decide) (by kernel_rfl) (by kernel_rfl) (by kernel_rfl) (hQ _ _) (want_n (by kernel_rfl)) (fun hW w hS => rrun_load (ty := 32) (x := .tmp 10) (by kernel_rfl) (hF.ev 10 (ptr g 4) rfl) (rld_u32 (block_cell (hb0 w hS) 4))) hS (fun a hF => ?_)
  rw [show cond true (.int .u32 ((n.mtm : Nat) : Int)) undef = .int .u32 ((n.mtm : Nat) : Int) from rfl] at hF
  refine hst (i := 8) (o := ops_ns1[8]'(show 8 < ops_ns1.size by rw [size_ns1]; decide)) hF 12 true (ptr g 5) (Array.getElem?_eq_getElem (show 8 < ops_ns1.size by rw [size_ns1]; decide)) (by kernel_rfl) (by decide) (by kernel_rfl) (by kernel_rfl) (by kernel_rfl) (hQ _ _) (want_n (by kernel_rfl)) (fun hW w hS => rrun_fld (T := 89) (x := .tmp 1) (f := 5) (by kernel_rfl) (hF.ev 1 (ptr g 0) rfl) (by kernel_rfl)) hS (fun a hF => ?_)
  rw [show cond true (ptr g 5) undef = ptr g 5 from rfl] at hF
  refine hst (i := 9) (o := ops_ns1[9]'(show 9 < ops_ns1.size by rw [size_ns1]; decide)) hF 13 true (.string n.name) (Array.getElem?_eq_getElem (show 9 < ops_ns1.size by rw [size_ns1]; decide)) (by kernel_rfl) (by decide) (by kernel_rfl) (by kernel_rfl) (by kernel_rfl) (hQ _ _) (want_n (by kernel_rfl)) (fun hW w hS => rrun_load (ty := 9) (x := .tmp 12) (by kernel_rfl) (hF.ev 12 (ptr g 5) rfl) (rld_str (block_cell (hb0 w hS) 5))) hS (fun a hF => ?_)
  rw [show cond true (.string n.name) undef = .string n.name from rfl] at hF
  refine hst (i := 10) (o := ops_ns1[10]'(show 10 < ops_ns1.size by rw [size_ns1]; decide)) hF 14 true (ptr g 6) (Array.getElem?_eq_getElem (show 10 < ops_ns1.size by rw [size_ns1]; decide)) (by kernel_rfl) (by decide) (by kernel_rfl) (by kernel_rfl) (by kernel_rfl) (hQ _ _) (want_n (by kernel_rfl)) (fun hW w hS => rrun_fld (T := 89) (x := .tmp 1) (f := 6) (by kernel_rfl) (hF.ev 1 (ptr g 0) rfl) (by kernel_rfl)) hS (fun a hF => ?_)
  rw [show cond true (ptr g 6) undef = ptr g 6 from rfl] at hF
  refine hst (i := 11) (o := ops_ns1[11]'(show 11 < ops_ns1.size by rw [size_ns1]; decide)) hF 15 true (.string n.uid) (Array.getElem?_eq_getElem (show 11 < ops_ns1.size by rw [size_ns1]; decide)) (by kernel_rfl) (by decide) (by kernel_rfl) (by kernel_rfl) (by kernel_rfl) (hQ _ _) (want_n (by kernel_rfl)) (fun hW w hS => rrun_load (ty := 9) (x := .tmp 14) (by kernel_rfl) (hF.ev 14 (ptr g 6) rfl) (rld_str (block_cell (hb0 w hS) 6))) hS (fun a hF => ?_)
  rw [show cond true (.string n.uid) undef = .string n.uid from rfl] at hF
  refine hst (i := 12) (o := ops_ns1[12]'(show 12 < ops_ns1.size by rw [size_ns1]; decide)) hF 16 true (ptr g 7) (Array.getElem?_eq_getElem (show 12 < ops_ns1.size by rw [size_ns1]; decide)) (by kernel_rfl) (by decide) (by kernel_rfl) (by kernel_rfl) (by kernel_rfl) (hQ _ _) (want_n (by kernel_rfl)) (fun hW w hS => rrun_fld (T := 89) (x := .tmp 1) (f := 7) (by kernel_rfl) (hF.ev 1 (ptr g 0) rfl) (by kernel_rfl)) hS (fun a hF => ?_)
  rw [show cond true (ptr g 7) undef = ptr g 7 from rfl] at hF
  refine hst (i := 13) (o := ops_ns1[13]'(show 13 < ops_ns1.size by rw [size_ns1]; decide)) hF 17 true (.string n.gid) (Array.getElem?_eq_getElem (show 13 < ops_ns1.size by rw [size_ns1]; decide)) (by kernel_rfl) (by decide) (by kernel_rfl) (by kernel_rfl) (by kernel_rfl) (hQ _ _) (want_n (by kernel_rfl)) (fun hW w hS => rrun_load (ty := 9) (x := .tmp 16) (by kernel_rfl) (hF.ev 16 (ptr g 7) rfl) (rld_str (block_cell (hb0 w hS) 7))) hS (fun a hF => ?_)
  rw [show cond true (.string n.gid) undef = .string n.gid from rfl] at hF
  refine hst (i := 14) (o := ops_ns1[14]'(show 14 < ops_ns1.size by rw [size_ns1]; decide)) hF 18 true (ptr g 8) (Array.getElem?_eq_getElem (show 14 < ops_ns1.size by rw [size_ns1]; decide)) (by kernel_rfl) (by decide) (by kernel_rfl) (by kernel_rfl) (by kernel_rfl) (hQ _ _) (want_n (by kernel_rfl)) (fun hW w hS => rrun_fld (T := 89) (x := .tmp 1) (f := 8) (by kernel_rfl) (hF.ev 1 (ptr g 0) rfl) (by kernel_rfl)) hS (fun a hF => ?_)
  rw [show cond true (ptr g 8) undef = ptr g 8 from rfl] at hF
  refine hst (i := 15) (o := ops_ns1[15]'(show 15 < ops_ns1.size by rw [size_ns1]; decide)) hF 19 true (.string n.muid) (Array.getElem?_eq_getElem (show 15 < ops_ns1.size by rw [size_ns1]; decide)) (by kernel_rfl) (by decide) (by kernel_rfl) (by kernel_rfl) (by kernel_rfl) (hQ _ _) (want_n (by kernel_rfl)) (fun hW w hS => rrun_load (ty := 9) (x := .tmp 18) (by kernel_rfl) (hF.ev 18 (ptr g 8) rfl) (rld_str (block_cell (hb0 w hS) 8))) hS (fun a hF => ?_)
  rw [show cond true (.string n.muid) undef = .string n.muid from rfl] at hF
  refine wpAnyH_all (rs := [1, 17]) (by kernel_rfl) (by simp) fun j hj => ?_
  have hj2 : j = 1 ∨ j = 17 := by simpa using hj
  rcases hj2 with rfl | rfl
  · skip
    refine hdoc (i := 1) (o := ops_ns1[1]'(show 1 < ops_ns1.size by rw [size_ns1]; decide)) (R := fun v w' => v = .agg (qidC n) ∧ Below w.heap.size w w') hF 5 (Array.getElem?_eq_getElem (show 1 < ops_ns1.size by rw [size_ns1]; decide)) (by kernel_rfl) (by decide) (want_n (by kernel_rfl)) ⟨104, #[.agg n.cells], rrun_call1 (fn := 104) (t := 89) rfl (by kernel_rfl) (by kernel_rfl) (hF.ev 4 _ rfl), (nqid_any n w hn).mono (by rintro e w' ⟨rfl, hb⟩; exact ⟨_, rfl, rfl, hb⟩)⟩ ?_
    rintro _ a wc ⟨rfl, hb⟩ hF
    replace hS := hS.trans (hb.mono hS.size)
    refine ⟨hS, ?_⟩
    clear hb
    refine hst (i := 16) (o := ops_ns1[16]'(show 16 < ops_ns1.size by rw [size_ns1]; decide)) hF 20 true (.agg (statC n 0)) (Array.getElem?_eq_getElem (show 16 < ops_ns1.size by rw [size_ns1]; decide)) (by kernel_rfl) (by decide) (by kernel_rfl) (by kernel_rfl) (by kernel_rfl) (hQ _ _) (want_n (by kernel_rfl)) (fun hW w hS => rrun_statbuild (by kernel_rfl) (hF.ev 5 _ rfl) (hF.ev 7 _ rfl) (hF.ev 9 _ rfl) (hF.ev 11 _ rfl) (hF.ev 13 _ rfl) (hF.ev 15 _ rfl) (hF.ev 17 _ rfl) (hF.ev 19 _ rfl)) hS (fun a hF => ?_)
    rw [show cond true (Value.agg (statC n 0)) undef = .agg (statC n 0) from rfl] at hF
    refine wpAnyH_all (rs := [17]) (by kernel_rfl) (by simp) fun j hj => ?_
    obtain rfl : j = 17 := by simpa using hj
    refine hdo (i := 17) (o := ops_ns1[17]'(show 17 < ops_ns1.size by rw [size_ns1]; decide)) hF 3 (ptr wc.heap.size 0) (wc.alloc (.cells #[.int .u16 0, .int .u32 0, .int .u8 0, .int .u32 0, .int .u64 0, .int .u32 0, .int .u32 0, .int .u32 0, .int .u64 0, .string ⟨#[]⟩, .string ⟨#[]⟩, .string ⟨#[]⟩, .string ⟨#[]⟩] 53)) (Array.getElem?_eq_getElem (show 17 < ops_ns1.size by rw [size_ns1]; decide)) (by kernel_rfl) (by decide) (want_n (by kernel_rfl)) (rrun_alloc (t := 53) (z := .agg #[.int .u16 0, .int .u32 0, .int .u8 0, .int .u32 0, .int .u64 0, .int .u32 0, .int .u32 0, .int .u32 0, .int .u64 0, .string ⟨#[]⟩, .string ⟨#[]⟩, .string ⟨#[]⟩, .string ⟨#[]⟩]) (by kernel_rfl) (by kernel_rfl)) (fun a hF => ?_)
    have gA := hS.size
    have fA := heap_alloc_new wc (.cells #[.int .u16 0, .int .u32 0, .int .u8 0, .int .u32 0, .int .u64 0, .int .u32 0, .int .u32 0, .int .u32 0, .int .u64 0, .string ⟨#[]⟩, .string ⟨#[]⟩, .string ⟨#[]⟩, .string ⟨#[]⟩] 53)
    replace hS := hS.alloc hS.size (.cells #[.int .u16 0, .int .u32 0, .int .u8 0, .int .u32 0, .int .u64 0, .int .u32 0, .int .u32 0, .int .u32 0, .int .u64 0, .string ⟨#[]⟩, .string ⟨#[]⟩, .string ⟨#[]⟩, .string ⟨#[]⟩] 53)
    refine ⟨hS, ?_⟩
    generalize wc.alloc (.cells #[.int .u16 0, .int .u32 0, .int .u8 0, .int .u32 0, .int .u64 0, .int .u32 0, .int .u32 0, .int .u32 0, .int .u64 0, .string ⟨#[]⟩, .string ⟨#[]⟩, .string ⟨#[]⟩, .string ⟨#[]⟩] 53) = wa at hS fA ⊢
    generalize wc.heap.size = k at gA fA hF
    refine wpAnyH_all (rs := [18]) (by kernel_rfl) (by simp) fun j hj => ?_
    obtain rfl : j = 18 := by simpa using hj
    refine hdo0 (o := ops_ns1[18]'(show 18 < ops_ns1.size by rw [size_ns1]; decide)) (wa.setRow k (statC n 0)) (Array.getElem?_eq_getElem (show 18 < ops_ns1.size by rw [size_ns1]; decide)) (by kernel_rfl) (want_n (by kernel_rfl)) (rrun_store (t := 53) (x := .tmp 3) (y := .tmp 20) (by kernel_rfl) (hF.ev 3 _ rfl) (hF.ev 20 _ rfl) fA (by kernel_rfl) rfl (by kernel_rfl)) ?_
    have hS2 := below_setRow (g := k) hS gA (statC n 0)
    refine ⟨hS2, ?_⟩
    exact wpAnyH_done (by kernel_rfl) (hE _ _ k (hF.sub ((3, ptr k 0) :: [(1, ptr g 0), (2, ptr r 0), (0, v0)]) ⟨rfl, rfl, rfl, rfl, trivial⟩) hS2 (setRow_heap wa k _ _ _ _ fA) gA) _
  · skip
    refine hdo (i := 17) (o := ops_ns1[17]'(show 17 < ops_ns1.size by rw [size_ns1]; decide)) hF 3 (ptr w.heap.size 0) (w.alloc (.cells #[.int .u16 0, .int .u32 0, .int .u8 0, .int .u32 0, .int .u64 0, .int .u32 0, .int .u32 0, .int .u32 0, .int .u64 0, .string ⟨#[]⟩, .string ⟨#[]⟩, .string ⟨#[]⟩, .string ⟨#[]⟩] 53)) (Array.getElem?_eq_getElem (show 17 < ops_ns1.size by rw [size_ns1]; decide)) (by kernel_rfl) (by decide) (want_n (by kernel_rfl)) (rrun_alloc (t := 53) (z := .agg #[.int .u16 0, .int .u32 0, .int .u8 0, .int .u32 0, .int .u64 0, .int .u32 0, .int .u32 0, .int .u32 0, .int .u64 0, .string ⟨#[]⟩, .string ⟨#[]⟩, .string ⟨#[]⟩, .string ⟨#[]⟩]) (by kernel_rfl) (by kernel_rfl)) (fun a hF => ?_)
    have gA := hS.size
    have fA := heap_alloc_new w (.cells #[.int .u16 0, .int .u32 0, .int .u8 0, .int .u32 0, .int .u64 0, .int .u32 0, .int .u32 0, .int .u32 0, .int .u64 0, .string ⟨#[]⟩, .string ⟨#[]⟩, .string ⟨#[]⟩, .string ⟨#[]⟩] 53)
    replace hS := hS.alloc hS.size (.cells #[.int .u16 0, .int .u32 0, .int .u8 0, .int .u32 0, .int .u64 0, .int .u32 0, .int .u32 0, .int .u32 0, .int .u64 0, .string ⟨#[]⟩, .string ⟨#[]⟩, .string ⟨#[]⟩, .string ⟨#[]⟩] 53)
    refine ⟨hS, ?_⟩
    generalize w.alloc (.cells #[.int .u16 0, .int .u32 0, .int .u8 0, .int .u32 0, .int .u64 0, .int .u32 0, .int .u32 0, .int .u32 0, .int .u64 0, .string ⟨#[]⟩, .string ⟨#[]⟩, .string ⟨#[]⟩, .string ⟨#[]⟩] 53) = wa at hS fA ⊢
    generalize w.heap.size = k at gA fA hF
    refine wpAnyH_all (rs := [1]) (by kernel_rfl) (by simp) fun j hj => ?_
    obtain rfl : j = 1 := by simpa using hj
    refine hdoc (i := 1) (o := ops_ns1[1]'(show 1 < ops_ns1.size by rw [size_ns1]; decide)) (R := fun v w' => v = .agg (qidC n) ∧ Below wa.heap.size wa w') hF 5 (Array.getElem?_eq_getElem (show 1 < ops_ns1.size by rw [size_ns1]; decide)) (by kernel_rfl) (by decide) (want_n (by kernel_rfl)) ⟨104, #[.agg n.cells], rrun_call1 (fn := 104) (t := 89) rfl (by kernel_rfl) (by kernel_rfl) (hF.ev 4 _ rfl), (nqid_any n wa hn).mono (by rintro e w' ⟨rfl, hb⟩; exact ⟨_, rfl, rfl, hb⟩)⟩ ?_
    rintro _ a wc ⟨rfl, hb⟩ hF
    replace fA := (hb.block _ (lt_of_block fA)).trans fA
    replace hS := hS.trans (hb.mono hS.size)
    refine ⟨hS, ?_⟩
    clear hb
    refine hst (i := 16) (o := ops_ns1[16]'(show 16 < ops_ns1.size by rw [size_ns1]; decide)) hF 20 true (.agg (statC n 0)) (Array.getElem?_eq_getElem (show 16 < ops_ns1.size by rw [size_ns1]; decide)) (by kernel_rfl) (by decide) (by kernel_rfl) (by kernel_rfl) (by kernel_rfl) (hQ _ _) (want_n (by kernel_rfl)) (fun hW w hS => rrun_statbuild (by kernel_rfl) (hF.ev 5 _ rfl) (hF.ev 7 _ rfl) (hF.ev 9 _ rfl) (hF.ev 11 _ rfl) (hF.ev 13 _ rfl) (hF.ev 15 _ rfl) (hF.ev 17 _ rfl) (hF.ev 19 _ rfl)) hS (fun a hF => ?_)
    rw [show cond true (Value.agg (statC n 0)) undef = .agg (statC n 0) from rfl] at hF
    refine wpAnyH_all (rs := [18]) (by kernel_rfl) (by simp) fun j hj => ?_
    obtain rfl : j = 18 := by simpa using hj
    refine hdo0 (o := ops_ns1[18]'(show 18 < ops_ns1.size by rw [size_ns1]; decide)) (wc.setRow k (statC n 0)) (Array.getElem?_eq_getElem (show 18 < ops_ns1.size by rw [size_ns1]; decide)) (by kernel_rfl) (want_n (by kernel_rfl)) (rrun_store (t := 53) (x := .tmp 3) (y := .tmp 20) (by kernel_rfl) (hF.ev 3 _ rfl) (hF.ev 20 _ rfl) fA (by kernel_rfl) rfl (by kernel_rfl)) ?_
    have hS2 := below_setRow (g := k) hS gA (statC n 0)
    refine ⟨hS2, ?_⟩
    exact wpAnyH_done (by kernel_rfl) (hE _ _ k (hF.sub ((3, ptr k 0) :: [(1, ptr g 0), (2, ptr r 0), (0, v0)]) ⟨rfl, rfl, rfl, rfl, trivial⟩) hS2 (setRow_heap wc k _ _ _ _ fA) gA) _
end
end Go.Proofs.YtkefjeabckainaaGreat

namespace Go.Proofs.YtkefjeabckainaaGreat
section
open Go.RowKit
set_option maxRecDepth 100000
set_option linter.unusedVariables false

def lenN (n : Nod) : Nat := if dirB n then 0 else n.data.size
theorem statC_one (n : Nod) (k : Nat) : (statC n k).all (·.oneCell') = true := by kernel_rfl
set_option maxHeartbeats 3200000 in
theorem nstat_any (n : Nod) (w : World) (hn : NodOk n) (hd : n.data.size ≤ 1000000) :
    Calls Tryz.prog 52 #[.agg n.cells] w fun e w' => e = .returned (.agg (statC n (lenN n))) ∧ Below w.heap.size w w' := by
  have mixed : Tryz.prog.follows Departure.mixedOrders = true := by first | kernel_rfl | decide
  obtain ⟨W, hW⟩ : ∃ W, W = (w.alloc (.cells n.cells 89)).alloc (.cells #[.int .u16 0, .int .u32 0, .int .u8 0, .int .u32 0, .int .u64 0, .int .u32 0, .int .u32 0, .int .u32 0, .int .u64 0, .string ⟨#[]⟩, .string ⟨#[]⟩, .string ⟨#[]⟩, .string ⟨#[]⟩] 53) := ⟨_, rfl⟩
  have hb0 : Below w.heap.size w W := by rw [hW]; exact ((Below.refl w.heap.size w).alloc (Nat.le_refl _) _).alloc (by simp) _
  have hN := hid (show W.heap[w.heap.size]? = some (.cells n.cells 89 (0, 0)) by rw [hW, heap_alloc_old _ _ (by simp), heap_alloc_new])
  have hR := hid (show W.heap[w.heap.size + 1]? = some (.cells #[.int .u16 0, .int .u32 0, .int .u8 0, .int .u32 0, .int .u64 0, .int .u32 0, .int .u32 0, .int .u32 0, .int .u64 0, .string ⟨#[]⟩, .string ⟨#[]⟩, .string ⟨#[]⟩, .string ⟨#[]⟩] 53 (0, 0)) by rw [hW]; exact heap2 _ _ _)
  have hsz : W.heap.size = w.heap.size + 2 := by rw [hW]; simp
  replace hb0 := hid hb0
  replace hn := hid hn
  go_enter Tryz.func52, Tryz.ntmps52
  go_upto_region 1 with (rw [← hW]; replace hW := hid hW)
  try (rw [← hW]; replace hW := hid hW)
  go_cut [3] (fun s wx => ∃ k, s = ptr k 0 ∧ Hid (Below W.drew.heap.size W.drew wx ∧ wx.heap[k]? = some (.cells (statC n 0) 53 (0, 0)) ∧ W.drew.heap.size ≤ k))
  case first => as_aux_lemma =>
    rename_i J K' hJ hK
    refine wp_region_noPanic ?_
    refine wp_region_held (S := (Below W.drew.heap.size W.drew)) mixed ?_
    refine (show wpAnyH Tryz.prog .any ops_ns1 _ _ _ _ _ _ → _ from fun h => h) ?_
    refine ns1_all (w1 := W.drew) (g := w.heap.size) (r := w.heap.size + 1) (n := n) hn.out hN.out (fun _ _ _ _ _ h => h) (FrL.of_all (by rfl) rfl ⟨rfl, rfl, rfl, trivial⟩) (Below.refl _ _) (fun a w' k hF hS hk hge => ?_)
    exact hK _ _ (Met.intro (hJ _ _ ⟨ptr k 0, a.tmps.getD 4 undef, a.tmps.getD 5 undef, a.tmps.getD 6 undef, a.tmps.getD 7 undef, a.tmps.getD 8 undef, a.tmps.getD 9 undef, a.tmps.getD 10 undef, a.tmps.getD 11 undef, a.tmps.getD 12 undef, a.tmps.getD 13 undef, a.tmps.getD 14 undef, a.tmps.getD 15 undef, a.tmps.getD 16 undef, a.tmps.getD 17 undef, a.tmps.getD 18 undef, a.tmps.getD 19 undef, a.tmps.getD 20 undef, a.tmps.getD 21 undef, a.tmps.getD 22 undef, a.tmps.getD 23 undef, a.tmps.getD 24 undef, a.tmps.getD 25 undef, a.tmps.getD 26 undef, a.tmps.getD 27 undef, a.tmps.getD 28 undef, a.tmps.getD 29 undef, ⟨k, rfl, hid ⟨hS, hk, hge⟩⟩, frame_eq hF _ (by rfl) ⟨hF.get 0 _ rfl, hF.get 1 _ rfl, hF.get 2 _ rfl, hF.get 3 _ rfl, hF.any 4 (by decide), hF.any 5 (by decide), hF.any 6 (by decide), hF.any 7 (by decide), hF.any 8 (by decide), hF.any 9 (by decide), hF.any 10 (by decide), hF.any 11 (by decide), hF.any 12 (by decide), hF.any 13 (by decide), hF.any 14 (by decide), hF.any 15 (by decide), hF.any 16 (by decide), hF.any 17 (by decide), hF.any 18 (by decide), hF.any 19 (by decide), hF.any 20 (by decide), hF.any 21 (by decide), hF.any 22 (by decide), hF.any 23 (by decide), hF.any 24 (by decide), hF.any 25 (by decide), hF.any 26 (by decide), hF.any 27 (by decide), hF.any 28 (by decide), hF.any 29 (by decide), trivial⟩⟩))
  case rest =>
    obtain ⟨k, rfl, hC⟩ := hcut
    obtain ⟨hb, hk, hge⟩ := hC.out
    unfold ptr
    have hge2 : w.heap.size + 2 ≤ k := by have : W.drew.heap.size = W.heap.size := rfl; omega
    have hB := hid (hb0.out.drew.trans (hb.mono (show w.heap.size ≤ W.drew.heap.size from by have : W.drew.heap.size = W.heap.size := rfl; omega)))
    have hN2 := hid ((hb.block _ (show w.heap.size < W.drew.heap.size from lt_of_block hN.out)).trans hN.out)
    have hR2 := hid ((hb.block _ (show w.heap.size + 1 < W.drew.heap.size from lt_of_block hR.out)).trans hR.out)
    have hdir := hid (ndir_any n wc hn.out)
    obtain ⟨bD, hbD⟩ : ∃ b, b = dirB n := ⟨_, rfl⟩
    rw [← hbD] at hdir
    replace hbD := hid hbD
    replace hk := hid hk
    clear hC hb hN hR hge
    go_wp2_with (refine wpList_load_row (by rfl) 89 (.tmp 1) (by rfl) w.heap.size (by rfl) 89 n.cells (0, 0) _ hN2.out Tryz.underlying89 (by rfl) (by kernel_rfl) ?_)
    refine hdir.out.mono ?_
    rintro e w3 ⟨rfl, hb3⟩
    have hB3 := hid (sn hB.out hb3)
    have hk3 := hid ((hb3.block _ (lt_of_block hk.out)).trans hk.out)
    have hN3 := hid ((hb3.block _ (lt_of_block hN2.out)).trans hN2.out)
    have hR3 := hid ((hb3.block _ (lt_of_block hR2.out)).trans hR2.out)
    clear hdir hb3 hk hN2 hR2 hB
    cases bD with
    | true =>
      have hL := hid (show lenN n = 0 by unfold lenN; rw [← hbD.out]; rfl)
      have hF := hid (setRow_heap w3 (w.heap.size + 1) _ (statC n 0) _ _ hR3.out)
      have hBF := hid (below_setRow (g := w.heap.size + 1) hB3.out (by omega) (statC n 0))
      go_wp2_with (first
        | (refine wpList_load_row (by rfl) 53 (.tmp 3) (by rfl) k (by rfl) 53 (statC n 0) (0, 0) _ hk3.out Tryz.underlying53 (by rfl) (by kernel_rfl) ?_)
        | (refine wpList_store_row (by rfl) 53 (.tmp 2) (.tmp 29) (by rfl) (w.heap.size + 1) (statC n 0) (by rfl) (by rfl) 53 _ hR3.out (by kernel_rfl) (by kernel_rfl) (statC_one n 0) ?_))
      refine bodyPost_ret (results_cell_row rfl _ _ (w.heap.size + 1) _ _ _ _ rfl hF.out Tryz.underlying53 rfl (by kernel_rfl)) rfl ?_
      exact ⟨by rw [hL.out], hBF.out⟩
    | false =>
      have hL := hid (show lenN n = n.data.size by unfold lenN; rw [← hbD.out]; rfl)
      have z11 : w3.cell? ⟨w.heap.size, 11, none⟩ = some (.string n.data) := block_cell hN3.out 11
      have y8 : w3.cell? ⟨k, 8, none⟩ = some (.int .u64 0) := block_cell hk3.out 8
      have y8f : w3.frozen? ⟨k, 8, none⟩ = false := block_free hk3.out 8
      have cv : IntKind.u64.wrap ((n.data.size : Nat) : Int) = ((n.data.size : Nat) : Int) := IntWalk.u64_in _ (by omega)
      obtain ⟨X, hX⟩ : ∃ X, X = w3.setCell ⟨k, 8, none⟩ (.int .u64 (n.data.size : Int)) := ⟨_, rfl⟩
      have hkX := hid (show X.heap[k]? = some (.cells (statC n n.data.size) 53 (0, 0)) by rw [hX]; exact block_set hk3.out 8 _)
      have hRX := hid (show X.heap[w.heap.size + 1]? = some (.cells #[.int .u16 0, .int .u32 0, .int .u8 0, .int .u32 0, .int .u64 0, .int .u32 0, .int .u32 0, .int .u32 0, .int .u64 0, .string ⟨#[]⟩, .string ⟨#[]⟩, .string ⟨#[]⟩, .string ⟨#[]⟩] 53 (0, 0)) by rw [hX]; exact (block_set_other (by show w.heap.size + 1 ≠ k; omega)).trans hR3.out)
      have hBX := hid (show Below w.heap.size w X by rw [hX]; exact hB3.out.setCell (p := ⟨k, 8, none⟩) (by show w.heap.size ≤ k; omega) _)
      have hF := hid (setRow_heap X (w.heap.size + 1) _ (statC n n.data.size) _ _ hRX.out)
      have hBF := hid (below_setRow (g := w.heap.size + 1) hBX.out (by omega) (statC n n.data.size))
      go_wp2_with (first
        | (rw [← hX]; replace hX := hid hX)
        | (refine wpList_load_row (by rfl) 53 (.tmp 3) (by rfl) k (by rfl) 53 (statC n n.data.size) (0, 0) _ hkX.out Tryz.underlying53 (by rfl) (by kernel_rfl) ?_)
        | (refine wpList_store_row (by rfl) 53 (.tmp 2) (.tmp 29) (by rfl) (w.heap.size + 1) (statC n n.data.size) (by rfl) (by rfl) 53 _ hRX.out (by kernel_rfl) (by kernel_rfl) (statC_one n _) ?_))
      refine bodyPost_ret (results_cell_row rfl _ _ (w.heap.size + 1) _ _ _ _ rfl hF.out Tryz.underlying53 rfl (by kernel_rfl)) rfl ?_
      exact ⟨by rw [hL.out], hBF.out⟩
end
end Go.Proofs.YtkefjeabckainaaGreat

namespace Go.Proofs.YtkefjeabckainaaGreat
section
open Go.RowKit Go.Maps
set_option maxRecDepth 100000
set_option linter.unusedVariables false

theorem elemStF : ElemOk Tryz.prog 42 53 13 112 := elemOk_of (z := .agg #[.int .u16 0, .int .u32 0, .int .u8 0, .int .u32 0, .int .u64 0, .int .u32 0, .int .u32 0, .int .u32 0, .int .u64 0, .string ⟨#[]⟩, .string ⟨#[]⟩, .string ⟨#[]⟩, .string ⟨#[]⟩]) Tryz.underlying42 (by kernel_rfl) rfl (by decide)
def fstN (n : Nod) : Array Value := statC n (lenN n)
theorem fstN_one (n : Nod) : ∀ u ∈ (fstN n).toList, u.oneCell' = true := fun u hu => (Array.all_eq_true_iff_forall_mem.1 (statC_one n (lenN n))) u (by simpa [fstN] using hu)
def fstsL (l : List Nod) : List Value := l.flatMap fun n => (fstN n).toList
theorem fstsL_append (l : List Nod) (n : Nod) : fstsL (l ++ [n]) = fstsL l ++ (fstN n).toList := by simp [fstsL]
def FstsAt (w : World) (v : Value) (l : List Nod) : Prop := RowW w 13 v l.length (fstsL l)
theorem FstsAt.below {w w' : World} {v : Value} {l : List Nod} (h : FstsAt w v l) (hb : Below w.heap.size w w') : FstsAt w' v l := RowW.below h hb
theorem FstsAt.other {w w' : World} {v : Value} {l : List Nod} (h : FstsAt w v l) (z : Nat) (hz : v.ownBlock ≠ some z) (hs : w.heap.size ≤ w'.heap.size) (hk : ∀ k, k ≠ z → w'.heap[k]? = w.heap[k]?) : FstsAt w' v l := by
  obtain ⟨hl, a, c, hv, h1, h2, h3, h4⟩ := h
  refine ⟨hl, a, c, hv, h1, h2, h3, fun i u hu => ?_⟩
  obtain ⟨b, o, ha, hc⟩ := h4 i u hu
  refine ⟨b, o, ha, ?_⟩
  subst hv ha
  rw [World.cell?_of_block (w := w) (hk b (fun e => hz (by rw [← e]; rfl)))]
  exact hc
theorem FstsAt.of_own {w : World} {base e n : Nat} {v : Value} {l : List Nod} (h : w.ownsRow base e 13 v n (fstsL l)) (hn : n = l.length) : FstsAt w v l := by
  subst hn
  exact (RowAt.of_own h).weak
def listE (f : FsV) (q : Nat) : Nat := match getL f.t.n q with | none => 6 | some d => if d.gone then 6 else if dirB d = false then 13 else 0
def FList (b m p n : Nat) (f : FsV) (u : Usr) (q : Nat) (w : World) (e : Ending) (w' : World) : Prop := ∃ v ks, e = .returned (.tuple #[v, .int .i64 (listE f q : Int)]) ∧ (∃ v', FSo w' b m v' p f u n) ∧ FStep b m w w' ∧ ((listE f q = 0 ∧ FstsAt w' v ks ∧ Srt leNP ks ∧ ks.Perm (kidsOf f.t.n q)) ∨ (listE f q ≠ 0 ∧ v = .slice none 0 0))
theorem flist_bad {fn : Func} {s t : Tmp} (hres : fn.results = #[.tmp s, .cell t 33]) {tmps : Array Value} {b m p n k E q : Nat} {a : Option Addr} {l c : Nat} {y : Value} {f : FsV} {u : Usr} {w0 w : World} {fv : Fn} {cap : Array Value} (hE : listE f q = E) (hE0 : E ≠ 0) (h : FSo w b m (.slice a l c) p f u n) (hS : FStep b m w0 w) (hne : f.t.n ≠ []) (hk : w.heap[k]? = some (.cells #[y] 33 (0, 0))) (hbk : b < k) (hmk : m < k) (hk0 : w0.heap.size ≤ k)
    (hi : (invoke (.fn fv cap) #[.pointer (some ⟨b, 0, none⟩), .agg #[.int .u64 (f.t.next : Int), .slice a l c], .pointer (some ⟨k, 0, none⟩)]).run Tryz.prog w = .ok (.enter 35 #[.pointer (some ⟨b, 0, none⟩), .agg #[.int .u64 (f.t.next : Int), .slice a l c], .pointer (some ⟨k, 0, none⟩)]) w)
    (hs : tmps.getD s undef = .slice none 0 0) (ht : tmps.getD t undef = .pointer (some ⟨k, 0, none⟩)) :
    Leaves Tryz.prog fn tmps (FList b m p n f u q w0) [{ target := .fn fv cap, args := #[.pointer (some ⟨b, 0, none⟩), .agg #[.int .u64 (f.t.next : Int), .slice a l c], .pointer (some ⟨k, 0, none⟩)] }] (.panicking (errChain E)) w :=
  fend_bad h hk hbk hi ⟨_, results_sc hres _ _ k _ _ hs ht (frld_errno (back_cell hk hbk)), _, [], by rw [hE], ⟨_, h.back hne hk hbk hmk⟩, hS.back hk0 _ _ _, .inr ⟨by rw [hE]; exact hE0, rfl⟩⟩
theorem flist_ok {fn : Func} {s t : Tmp} (hres : fn.results = #[.tmp s, .cell t 33]) {tmps : Array Value} {b m p n k next q : Nat} {a : Option Addr} {l c : Nat} {v x : Value} {f : FsV} {u : Usr} {ks : List Nod} {w0 w : World} {fv : Fn} {cap : Array Value} (hE : listE f q = 0) (hst : FstsAt w x ks) (hsr : Srt leNP ks) (hpm : ks.Perm (kidsOf f.t.n q)) (h : FSo w b m v p f u n) (hS : FStep b m w0 w) (hk : w.heap[k]? = some (.cells #[.int .i64 0] 33 (0, 0)))
    (hi : (invoke (.fn fv cap) #[.pointer (some ⟨b, 0, none⟩), .agg #[.int .u64 (next : Int), .slice a l c], .pointer (some ⟨k, 0, none⟩)]).run Tryz.prog w = .ok (.enter 35 #[.pointer (some ⟨b, 0, none⟩), .agg #[.int .u64 (next : Int), .slice a l c], .pointer (some ⟨k, 0, none⟩)]) w)
    (hs : tmps.getD s undef = x) (ht : tmps.getD t undef = .pointer (some ⟨k, 0, none⟩)) :
    Leaves Tryz.prog fn tmps (FList b m p n f u q w0) [{ target := .fn fv cap, args := #[.pointer (some ⟨b, 0, none⟩), .agg #[.int .u64 (next : Int), .slice a l c], .pointer (some ⟨k, 0, none⟩)] }] .returning w := by
  have hA := (Below.refl w.heap.size w).alloc (Nat.le_refl _) (.cells #[.int .u64 (next : Int), .slice a l c] 30)
  exact fend_ok hi ⟨_, results_sc hres _ _ k _ _ hs ht (frld_errno (block_cell ((hA.block _ (lt_of_block hk)).trans hk) 0)), x, ks, by rw [hE]; rfl, ⟨_, h.below hA⟩, hS.trans (FStep.pure hA), .inl ⟨hE, hst.below hA, hsr, hpm⟩⟩
set_option maxHeartbeats 1600000 in
theorem flist_any (b m p n : Nat) (v : Value) (f : FsV) (u : Usr) (q : Nat) (w : World) (h : FSo w b m v p f u n) (ht : TrOk f.t.n) (hne : f.t.n ≠ []) :
    Calls Tryz.prog 15 #[.pointer (some ⟨b, 0, none⟩), .int .u64 (q : Int)] w (FList b m p n f u q w) := by
  have mixed : Tryz.prog.follows Departure.mixedOrders = true := by first | kernel_rfl | decide
  obtain ⟨a0, c0, rfl, g1, g2⟩ := h.row.form
  obtain ⟨W, hW⟩ : ∃ W, W = w.alloc (.cells #[.int .i64 0] 33) := ⟨_, rfl⟩
  have hb0 : Below w.heap.size w W := by rw [hW]; exact (Below.refl _ _).alloc (Nat.le_refl _) _
  have hK0 := hid (show W.heap[w.heap.size]? = some (.cells #[.int .i64 0] 33 (0, 0)) by rw [hW]; exact heap_alloc_new _ _)
  have hF0 := hid (h.below hb0)
  have hS0 := hid (FStep.pure (b := b) (m := m) hb0)
  have hbw := lt_of_block h.blk
  have hmw := h.map.lt
  have q0 := block_cell hF0.out.blk 0
  have q1 := block_cell hF0.out.blk 1
  have hlt0 := hid (lt_of_block hK0.out)
  replace hne := hid hne
  clear h hb0
  cases hg : getL f.t.n q with
  | none =>
    have hE : listE f q = 6 := by unfold listE; rw [hg]
    have hli := hid (flive_no b m p n _ f u q W hF0.out ht hg)
    replace hE := hid hE
    clear hg
    go_enter_defers Tryz.func15, Tryz.ntmps15
    go_wp2_with (rw [← hW]; replace hW := hid hW)
    try (rw [← hW]; replace hW := hid hW)
    refine hli.out.mono ?_
    rintro e w1 ⟨rfl, hb1⟩
    go_wp2_with fail
    exact flist_bad rfl hE.out (by decide) (hF0.out.below hb1) (hS0.out.trans (FStep.pure hb1)) hne.out ((hb1.block _ hlt0.out).trans hK0.out) hbw hmw (Nat.le_refl _) (by simp [go_sem]) rfl rfl
  | some d =>
    cases hgo : d.gone with
    | true =>
      have hE : listE f q = 6 := by unfold listE; rw [hg]; simp only; rw [if_pos hgo]
      have hli := hid (flive_gone b m p n _ f u q d W hF0.out ht hg hgo)
      replace hE := hid hE
      clear hg hgo
      go_enter_defers Tryz.func15, Tryz.ntmps15
      go_wp2_with (rw [← hW]; replace hW := hid hW)
      try (rw [← hW]; replace hW := hid hW)
      refine hli.out.mono ?_
      rintro e w1 ⟨rfl, hb1⟩
      go_wp2_with fail
      exact flist_bad rfl hE.out (by decide) (hF0.out.below hb1) (hS0.out.trans (FStep.pure hb1)) hne.out ((hb1.block _ hlt0.out).trans hK0.out) hbw hmw (Nat.le_refl _) (by simp [go_sem]) rfl rfl
    | false =>
      have hE : Hid (listE f q = if dirB d = false then 13 else 0) := hid (by unfold listE; rw [hg]; simp only; rw [if_neg (by rw [hgo]; decide)])
      have hli := hid (flive_ok b m p n _ f u q d W hF0.out ht hg hgo)
      have hdk := ht.ok d (getL_some hg).1
      clear hg hgo
      have hdi := hid (fun X => fdir_any d X hdk)
      replace hdk := hid hdk
      go_enter_defers Tryz.func15, Tryz.ntmps15
      go_wp2_with (rw [← hW]; replace hW := hid hW)
      try (rw [← hW]; replace hW := hid hW)
      refine hli.out.mono ?_
      rintro e w1 ⟨rfl, hb1⟩
      go_wp2_with fail
      refine (hdi.out _).mono ?_
      rintro e w2 ⟨rfl, hb2⟩
      have hbb := sn hb1 hb2
      have hF2 := hid (hF0.out.below hbb)
      have hS2 := hid (hS0.out.trans (FStep.pure hbb))
      have hK2 := hid ((hbb.block _ hlt0.out).trans hK0.out)
      clear hb1 hb2 hbb q0 q1 hli hdi hF0 hS0 hK0 hlt0
      cases hdd : dirB d with
      | false =>
        have hmu : Hid (Calls Tryz.prog 37 #[.bool true, .int .i64 13] w2 fun x w' => x = .panicked (errChain 13) ∧ w' = w2) := hid (fmust_bad 13 w2)
        have hE2 := hid (show listE f q = 13 by rw [hE.out, if_pos hdd])
        clear hdd hE
        go_wp2_with fail
        refine hmu.out.mono ?_
        rintro e w3 ⟨rfl, rfl⟩
        go_wp2_with fail
        exact flist_bad rfl hE2.out (by decide) hF2.out hS2.out hne.out hK2.out hbw hmw (Nat.le_refl _) (by simp [go_sem]) rfl rfl
      | true =>
        have hmu : Hid (Calls Tryz.prog 37 #[.bool false, .int .i64 13] w2 fun x w' => x = .returned (.tuple #[]) ∧ w' = w2) := hid (fmust_ok 13 w2)
        have hE2 := hid (show listE f q = 0 by rw [hE.out, if_neg (by rw [hdd]; decide)])
        have r0 : w2.cell? ⟨b, 0, none⟩ = some (.int .u64 (f.t.next : Int)) := block_cell hF2.out.blk 0
        have r1 : w2.cell? ⟨b, 1, none⟩ = some (.slice a0 f.t.n.length c0) := block_cell hF2.out.blk 1
        have hki := kids_any _ f.t.next f.t.n q w2 hF2.out.row ht.sort (by have := ht.few; omega)
        unfold KidsPost at hki
        replace hki := hid hki
        clear hdd hE
        go_wp2_with fail
        refine hmu.out.mono ?_
        rintro e w3 ⟨rfl, rfl⟩
        go_wp2_with fail
        refine hki.out.mono ?_
        rintro e wk ⟨vk, ks, rfl, hvk, hbk, hsk, hpk⟩
        have hlen : ks.length ≤ 80 := by rw [hpk.length_eq]; exact Nat.le_trans (List.length_filter_le _ _) ht.few
        have hmem : ∀ x ∈ ks, x ∈ f.t.n := fun x hx => (List.mem_filter.1 (hpk.mem_iff.1 hx)).1
        obtain ⟨ak, ck, rfl, gk1, gk2⟩ := hvk.form
        unfold maxLen at gk2
        have hFk := hid (hF2.out.below hbk)
        have hSk := hid (hS2.out.trans (FStep.pure hbk))
        have hKk := hid ((hbk.block _ (lt_of_block hK2.out)).trans hK2.out)
        have hltk := hid (lt_of_block hKk.out)
        replace hvk := hid hvk
        replace hsk := hid hsk
        replace hpk := hid hpk
        replace hmem := hid hmem
        clear hbk hki hmu r0 r1 hF2 hS2 hK2
        go_wp2_with fail
        go_loopw [4, 26] (fun ov kv wr => ∃ (k m : Nat), k ≤ ks.length ∧ kv = .int .i64 (k : Int) ∧ Hid (Below wk.heap.size wk wr) ∧ m = k ∧ Hid (wr.ownsRow wk.heap.size 53 13 ov m (fstsL (ks.take k)))) (fun _ kv _ => ks.length - (intOf kv).toNat)
        case atStart => exact ⟨0, 0, by omega, rfl, hid (Below.refl _ _), rfl, hid (World.ownsRow_nil _ _ _ _)⟩
        case round =>
          obtain ⟨k, m, hk, rfl, hB, hm, hown⟩ := hrel
          obtain ⟨oa, oc, rfl⟩ := own_form hown.out
          by_cases hkl : k < ks.length
          · obtain ⟨bb, o, ha, hr⟩ := (hvk.out.below hB.out).range k hkl
            subst ha
            have hst := hid (show fstsL (ks.take (k + 1)) = fstsL (ks.take k) ++ (fstN ks[k]).toList by rw [List.take_succ_eq_append_getElem hkl, fstsL_append])
            have hxm := hmem.out _ (List.getElem_mem hkl)
            have hxk := ht.ok _ hxm
            have hxd := ht.len _ hxm
            generalize ks[k] = x at *
            have hnew := hid (heap_alloc_new wr (.cells zeroNod.cells 89))
            obtain ⟨W3, hW3⟩ : ∃ W, W = boxN wr x := ⟨_, rfl⟩
            have hb3 : Below wr.heap.size wr W3 := by rw [hW3]; exact boxN_below _ _
            have hn3 := hid (show W3.heap[wr.heap.size]? = some (.cells x.cells 89 (0, 0)) by rw [hW3]; exact boxN_heap _ _)
            have hB3 := hid (sn hB.out hb3)
            have hown3 := hid (own_below hown.out hb3)
            have hns := nstat_any x W3 hxk (by omega)
            unfold statC at hns
            replace hns := hid hns
            unfold boxN at hW3
            rw [zeroNod_cells] at hW3 hnew
            replace hr := hid hr
            have hm80 : m ≤ 80 := by omega
            replace hm := hid hm
            clear hb3 hB hown hxm hxk hxd
            go_wp2_with (first
              | (refine wpList_load_cells (by rfl) 89 (.tmp 28) (by rfl) bb (o + k * 12) (by rfl) x.cells _ hr.out Tryz.underlying89 (by rfl) (by kernel_rfl) ?_)
              | (refine wpList_store_row (by rfl) 89 (.tmp 7) (.tmp 29) (by rfl) wr.heap.size x.cells (by rfl) (by rfl) 89 _ hnew.out (by kernel_rfl) (by kernel_rfl) (nod_one x) ?_)
              | (rw [← hW3]; replace hW3 := hid hW3)
              | (refine wpList_load_row (by rfl) 89 (.tmp 7) (by rfl) wr.heap.size (by rfl) 89 x.cells (0, 0) _ hn3.out Tryz.underlying89 (by rfl) (by kernel_rfl) ?_))
            refine hns.out.mono ?_
            rintro e w4 ⟨rfl, hb4⟩
            have hB4 := hid (sn hB3.out hb4)
            have hown4 := hid (own_below hown3.out hb4)
            obtain ⟨W5, hW5⟩ : ∃ W, W = w4.alloc (.cells (fstN x) 53) := ⟨_, rfl⟩
            have hn5 := hid (show W5.heap[w4.heap.size]? = some (.cells (fstN x) 53 (0, 0)) by rw [hW5, heap_alloc_new])
            have hB5 := hid (show Below wk.heap.size wk W5 by rw [hW5]; exact hB4.out.alloc hB4.out.size _)
            have hown5 := hid (show W5.ownsRow wk.heap.size 53 13 (.slice oa m oc) m (fstsL (ks.take k)) by rw [hW5]; exact hown4.out.alloc _)
            clear hb4 hns hr hnew hn3 hB3 hown3 hB4 hown4
            generalize wr.heap.size = z at *
            unfold fstN statC at hW5
            go_wp2_with (first
              | (rw [← hW5]; replace hW5 := hid hW5)
              | (at_builtin; refine wpList_append_row elemStF _ rfl (.tmp 30) (.tmp 33) rfl wk.heap.size (.slice oa m oc) m (fstsL (ks.take k)) rfl hown5.out (.slice (some ⟨w4.heap.size, 0, none⟩) 1 1) 1 (fstN x).toList rfl (RowAt.of_block hn5.out rfl (by unfold maxLen; omega)) (fstN_one x) (by unfold maxLen; omega) (by omega) hB5.out.size ?_))
            intro a' c' w' h2 h3
            have hB6 := hid (hB5.out.grown h3 hB5.out.size (fun j hj => (hown5.out.lt j hj).1))
            have hown6 := hid (show w'.ownsRow wk.heap.size 53 13 (.slice a' (m + 1) c') (m + 1) (fstsL (ks.take (k + 1))) by rw [hst.out]; exact h2)
            clear h2 h3 hown5 hB5
            go_wp2_with fail
            go_roundw
            case rel => exact ⟨k + 1, m + 1, by omega, by go_num, hB6, by have := hm.out; omega, hown6⟩
            case measure => simp [intOf]; omega
          · obtain rfl : k = ks.length := by omega
            have hown2 := hown.out
            rw [List.take_length] at hown2
            have hst := hid (FstsAt.of_own hown2 hm)
            have hoz := hid (show (Value.slice oa m oc).ownBlock ≠ some w.heap.size from fun e => by have := (hown2.lt _ e).1; have := hltk.out; omega)
            have hFz := hid (hFk.out.below hB.out)
            have hSz := hid (hSk.out.trans (FStep.pure hB.out))
            have hKz := hid ((hB.out.block _ hltk.out).trans hKk.out)
            have hho := hid (fown_not hFz.out.row hne.out hKz.out (by show 1 < 12; omega))
            have k0 : wr.cell? ⟨w.heap.size, 0, none⟩ = some (.int .i64 0) := block_cell hKz.out 0
            have k1 : wr.frozen? ⟨w.heap.size, 0, none⟩ = false := block_free hKz.out 0
            have hK7 := hid (block_set hKz.out 0 (.int .i64 0))
            have hF7 := hid (hFz.out.aside hho.out hbw hmw (.int .i64 0))
            have hS7 := hid (hSz.out.aside (Nat.le_refl _) (.int .i64 0))
            have hst7 := hid (show FstsAt (wr.setCell ⟨w.heap.size, 0, none⟩ (.int .i64 0)) (.slice oa m oc) ks from hst.out.other w.heap.size hoz.out (by simp [World.setCell]) (fun k hk => block_set_other hk))
            clear hown hown2
            go_wp2_with fail
            exact flist_ok rfl hE2.out hst7.out hsk.out hpk.out hF7.out hS7.out hK7.out (by simp [go_sem]) rfl rfl
end
end Go.Proofs.YtkefjeabckainaaGreat
