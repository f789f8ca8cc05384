/- The first test of the program's Check, operation by operation. Conditions: numbers in their types.
above of package fsys. Conditions: in the statements. -/
import Derived.Test.YtkefjeabckainaaGreatFaB18
import Derived.Test.YtkefjeabckainaaGreatFaB09
import Derived.Test.YtkefjeabckainaaGreatFaB13
import Derived.Test.YtkefjeabckainaaGreatFaB16
namespace Go.Proofs.YtkefjeabckainaaGreat
section
open Go.RowKit
set_option maxRecDepth 100000
set_option linter.unusedVariables false

theorem rld_nnode {b f : Nat} {n : Nod} {w : World} (h : w.rangeAt b f n.cells.toList) : (loadVar 89 ⟨b, f, none⟩).run Tryz.prog w = .ok (.agg n.cells) w := by
  have hl : (loadCells ⟨b, f, none⟩ 12).run Tryz.prog w = .ok n.cells w := by
    have := run_loadCells_list (P := Tryz.prog) (w := w) ⟨b, f, none⟩ n.cells.toList (fun j v hv => by rw [Addr.add_mid]; exact h j v hv)
    rw [show n.cells.toList.length = 12 by rw [nod_cells]; rfl] at this
    simpa using this
  obtain ⟨i0, hi0, hz0⟩ : ∃ i0, Tryz.prog.info? 89 = some i0 ∧ i0.size = 12 := ⟨_, rfl, rfl⟩
  have hagg : (isAgg 89).run Tryz.prog w = .ok true w := by kernel_rfl
  simp [loadVar, Sem.run_bind, hagg, sizeOf, typeInfo, hi0, hz0, hl]
theorem range_wholeP {w : World} {z : Nat} {cs : Array Value} {T : TypeId} {fr : Nat × Nat} (h : w.heap[z]? = some (.cells cs T fr)) : w.rangeAt z 0 cs.toList := fun j v hv => by
  rw [Nat.zero_add, block_cell h j]; simpa using hv

noncomputable def ops_pc4 : Array Oper := match Tryz.f84.body with | some c => (allOps' c).getD 4 #[] | none => #[]
noncomputable def l_pc4 : List Oper := ops_pc4.toList
theorem len_pc4 : l_pc4.length = 22 := by kernel_rfl
set_option maxHeartbeats 4000000 in
theorem pc4_all {w0 : World} {B g z b f x c : Nat} {l : List Nod} {n : Nod} (hn : NodOk n)  {v0 v1 v2 v4 v5 v6 v7 v8 v9 v42 v43 v53 v58 v63 v64 v65 : Value} {Q : Exit → Act → World → Prop} {a : Act} {w : World} (hF : FrL 88 [(3, ptr z 0), (0, v0), (1, v1), (2, v2), (4, v4), (5, v5), (6, v6), (7, v7), (8, v8), (9, v9), (42, v42), (43, v43), (53, v53), (58, v58), (63, v63), (64, v64), (65, v65)] a) (hS : (PwS B g z b f x c l n w0) w) (hE : ∀ a w', FrL 88 ((39, .bool (((((!decide (n.path = 1)) || (!(dirB n))) || (!decide (n.up = 1))) || n.gone) || (!decide (n.name = ⟨#[47]⟩)))) :: [(3, ptr z 0), (0, v0), (1, v1), (2, v2), (4, v4), (5, v5), (6, v6), (7, v7), (8, v8), (9, v9), (42, v42), (43, v43), (53, v53), (58, v58), (63, v63), (64, v64), (65, v65)]) a → (PwS B g z b f x c l n w0) w' → Q .normal a w') : wpList Tryz.prog ops_pc4 Q (l_pc4.drop 0) a w := by
  rw [List.drop_eq_getElem_cons (show 0 < l_pc4.length by rw [len_pc4]; decide)]
  refine st hF 18 (ptr z 0) (by kernel_rfl) (by decide) (by kernel_rfl) (rrun_fld (T := 89) (x := .tmp 3) (f := 0) (by kernel_rfl) (hF.ev 3 (ptr z 0) rfl) (by kernel_rfl)) (fun a hF => ?_)
  rw [List.drop_eq_getElem_cons (show 1 < l_pc4.length by rw [len_pc4]; decide)]
  refine st hF 19 (.int .u64 ((n.path : Nat) : Int)) (by kernel_rfl) (by decide) (by kernel_rfl) (rrun_load (ty := 27) (x := .tmp 18) (by kernel_rfl) (hF.ev 18 (ptr z 0) rfl) (rld_u64 (block_cell hS.nod 0))) (fun a hF => ?_)
  rw [List.drop_eq_getElem_cons (show 2 < l_pc4.length by rw [len_pc4]; decide)]
  refine st hF 20 (.bool (!decide (n.path = 1))) (by kernel_rfl) (by decide) (by kernel_rfl) (rrun_bin (op := .neq) (ty := 27) (ty2 := 27) (x := .tmp 19) (y := .const (.int .u64 1)) (u := .int .u64 ((n.path : Nat) : Int)) (v := .int .u64 ((1 : Nat) : Int)) (by kernel_rfl) (hF.ev 19 (.int .u64 ((n.path : Nat) : Int)) rfl) (rfl) (by kernel_rfl) (rne_u64 _ _ w)) (fun a hF => ?_)
  rw [List.drop_eq_getElem_cons (show 3 < l_pc4.length by rw [len_pc4]; decide)]
  refine st hF 21 (.bool (!decide (n.path = 1))) (by kernel_rfl) (by decide) (by kernel_rfl) (rrun_move (x := .tmp 20) (.inl (by kernel_rfl)) (hF.ev 20 (.bool (!decide (n.path = 1))) rfl)) (fun a hF => ?_)
  rw [List.drop_eq_getElem_cons (show 4 < l_pc4.length by rw [len_pc4]; decide)]
  refine st_if hF 22 ((!decide (n.path = 1)) == false) (.agg n.cells) (by kernel_rfl) (by decide) (want_b (gi := 3) (g := 21) (c := (!decide (n.path = 1))) hF (by kernel_rfl) (by kernel_rfl) rfl) (fun hW => rrun_load (ty := 89) (x := .tmp 3) (by kernel_rfl) (hF.ev 3 (ptr z 0) rfl) (rld_nnode (range_wholeP hS.nod))) (fun a hF => ?_)
  rw [List.drop_eq_getElem_cons (show 5 < l_pc4.length by rw [len_pc4]; decide)]
  refine stcall hF 23 ((!decide (n.path = 1)) == false) (.bool (dirB n)) (by kernel_rfl) (by decide) (want_b (gi := 3) (g := 21) (c := (!decide (n.path = 1))) hF (by kernel_rfl) (by kernel_rfl) rfl) (fun hW => ⟨105, #[.agg n.cells], rrun_call1 (fn := 105) (t := 89) rfl (by kernel_rfl) (by kernel_rfl) ((hF.ev 22 (cond ((!decide (n.path = 1)) == false) (.agg n.cells) undef) rfl).trans (cond_t hW)), (ndir_any n w hn).mono (by rintro e w' ⟨rfl, hb⟩; exact ⟨rfl, hS.next hb⟩)⟩) hS (fun a w hF hS => ?_)
  rw [List.drop_eq_getElem_cons (show 6 < l_pc4.length by rw [len_pc4]; decide)]
  refine st_if hF 24 ((!decide (n.path = 1)) == false) (.bool (!(dirB n))) (by kernel_rfl) (by decide) (want_b (gi := 3) (g := 21) (c := (!decide (n.path = 1))) hF (by kernel_rfl) (by kernel_rfl) rfl) (fun hW => rrun_not (ty := 4) (x := .tmp 23) (by kernel_rfl) ((hF.ev 23 (cond ((!decide (n.path = 1)) == false) (.bool (dirB n)) undef) rfl).trans (cond_t hW))) (fun a hF => ?_)
  rw [List.drop_eq_getElem_cons (show 7 < l_pc4.length by rw [len_pc4]; decide)]
  refine st hF 25 (.bool ((!decide (n.path = 1)) || (!(dirB n)))) (by kernel_rfl) (by decide) (by kernel_rfl) (rrun_or (y := .const (.bool true)) (x := .tmp 21) (b := (!decide (n.path = 1))) (b' := (!(dirB n))) (by kernel_rfl) (hF.ev 21 _ rfl) rfl (hF.ev 24 (cond ((!decide (n.path = 1)) == false) (.bool (!(dirB n))) undef) rfl)) (fun a hF => ?_)
  rw [List.drop_eq_getElem_cons (show 8 < l_pc4.length by rw [len_pc4]; decide)]
  refine st hF 26 (.bool ((!decide (n.path = 1)) || (!(dirB n)))) (by kernel_rfl) (by decide) (by kernel_rfl) (rrun_move (x := .tmp 25) (.inl (by kernel_rfl)) (hF.ev 25 (.bool ((!decide (n.path = 1)) || (!(dirB n)))) rfl)) (fun a hF => ?_)
  rw [List.drop_eq_getElem_cons (show 9 < l_pc4.length by rw [len_pc4]; decide)]
  refine st_if hF 27 (((!decide (n.path = 1)) || (!(dirB n))) == false) (ptr z 9) (by kernel_rfl) (by decide) (want_b (gi := 8) (g := 26) (c := ((!decide (n.path = 1)) || (!(dirB n)))) hF (by kernel_rfl) (by kernel_rfl) rfl) (fun hW => rrun_fld (T := 89) (x := .tmp 3) (f := 9) (by kernel_rfl) (hF.ev 3 (ptr z 0) rfl) (by kernel_rfl)) (fun a hF => ?_)
  rw [List.drop_eq_getElem_cons (show 10 < l_pc4.length by rw [len_pc4]; decide)]
  refine st_if hF 28 (((!decide (n.path = 1)) || (!(dirB n))) == false) (.int .u64 ((n.up : Nat) : Int)) (by kernel_rfl) (by decide) (want_b (gi := 8) (g := 26) (c := ((!decide (n.path = 1)) || (!(dirB n)))) hF (by kernel_rfl) (by kernel_rfl) rfl) (fun hW => rrun_load (ty := 27) (x := .tmp 27) (by kernel_rfl) ((hF.ev 27 (cond (((!decide (n.path = 1)) || (!(dirB n))) == false) (ptr z 9) undef) rfl).trans (cond_t hW)) (rld_u64 (block_cell hS.nod 9))) (fun a hF => ?_)
  rw [List.drop_eq_getElem_cons (show 11 < l_pc4.length by rw [len_pc4]; decide)]
  refine st_if hF 29 (((!decide (n.path = 1)) || (!(dirB n))) == false) (.bool (!decide (n.up = 1))) (by kernel_rfl) (by decide) (want_b (gi := 8) (g := 26) (c := ((!decide (n.path = 1)) || (!(dirB n)))) hF (by kernel_rfl) (by kernel_rfl) rfl) (fun hW => rrun_bin (op := .neq) (ty := 27) (ty2 := 27) (x := .tmp 28) (y := .const (.int .u64 1)) (u := .int .u64 ((n.up : Nat) : Int)) (v := .int .u64 ((1 : Nat) : Int)) (by kernel_rfl) ((hF.ev 28 (cond (((!decide (n.path = 1)) || (!(dirB n))) == false) (.int .u64 ((n.up : Nat) : Int)) undef) rfl).trans (cond_t hW)) (rfl) (by kernel_rfl) (rne_u64 _ _ w)) (fun a hF => ?_)
  rw [List.drop_eq_getElem_cons (show 12 < l_pc4.length by rw [len_pc4]; decide)]
  refine st hF 30 (.bool (((!decide (n.path = 1)) || (!(dirB n))) || (!decide (n.up = 1)))) (by kernel_rfl) (by decide) (by kernel_rfl) (rrun_or (y := .const (.bool true)) (x := .tmp 26) (b := ((!decide (n.path = 1)) || (!(dirB n)))) (b' := (!decide (n.up = 1))) (by kernel_rfl) (hF.ev 26 _ rfl) rfl (hF.ev 29 (cond (((!decide (n.path = 1)) || (!(dirB n))) == false) (.bool (!decide (n.up = 1))) undef) rfl)) (fun a hF => ?_)
  rw [List.drop_eq_getElem_cons (show 13 < l_pc4.length by rw [len_pc4]; decide)]
  refine st hF 31 (.bool (((!decide (n.path = 1)) || (!(dirB n))) || (!decide (n.up = 1)))) (by kernel_rfl) (by decide) (by kernel_rfl) (rrun_move (x := .tmp 30) (.inl (by kernel_rfl)) (hF.ev 30 (.bool (((!decide (n.path = 1)) || (!(dirB n))) || (!decide (n.up = 1)))) rfl)) (fun a hF => ?_)
  rw [List.drop_eq_getElem_cons (show 14 < l_pc4.length by rw [len_pc4]; decide)]
  refine st_if hF 32 ((((!decide (n.path = 1)) || (!(dirB n))) || (!decide (n.up = 1))) == false) (ptr z 10) (by kernel_rfl) (by decide) (want_b (gi := 13) (g := 31) (c := (((!decide (n.path = 1)) || (!(dirB n))) || (!decide (n.up = 1)))) hF (by kernel_rfl) (by kernel_rfl) rfl) (fun hW => rrun_fld (T := 89) (x := .tmp 3) (f := 10) (by kernel_rfl) (hF.ev 3 (ptr z 0) rfl) (by kernel_rfl)) (fun a hF => ?_)
  rw [List.drop_eq_getElem_cons (show 15 < l_pc4.length by rw [len_pc4]; decide)]
  refine st_if hF 33 ((((!decide (n.path = 1)) || (!(dirB n))) || (!decide (n.up = 1))) == false) (.bool n.gone) (by kernel_rfl) (by decide) (want_b (gi := 13) (g := 31) (c := (((!decide (n.path = 1)) || (!(dirB n))) || (!decide (n.up = 1)))) hF (by kernel_rfl) (by kernel_rfl) rfl) (fun hW => rrun_load (ty := 4) (x := .tmp 32) (by kernel_rfl) ((hF.ev 32 (cond ((((!decide (n.path = 1)) || (!(dirB n))) || (!decide (n.up = 1))) == false) (ptr z 10) undef) rfl).trans (cond_t hW)) (rld_bool (block_cell hS.nod 10))) (fun a hF => ?_)
  rw [List.drop_eq_getElem_cons (show 16 < l_pc4.length by rw [len_pc4]; decide)]
  refine st hF 34 (.bool ((((!decide (n.path = 1)) || (!(dirB n))) || (!decide (n.up = 1))) || n.gone)) (by kernel_rfl) (by decide) (by kernel_rfl) (rrun_or (y := .const (.bool true)) (x := .tmp 31) (b := (((!decide (n.path = 1)) || (!(dirB n))) || (!decide (n.up = 1)))) (b' := n.gone) (by kernel_rfl) (hF.ev 31 _ rfl) rfl (hF.ev 33 (cond ((((!decide (n.path = 1)) || (!(dirB n))) || (!decide (n.up = 1))) == false) (.bool n.gone) undef) rfl)) (fun a hF => ?_)
  rw [List.drop_eq_getElem_cons (show 17 < l_pc4.length by rw [len_pc4]; decide)]
  refine st hF 35 (.bool ((((!decide (n.path = 1)) || (!(dirB n))) || (!decide (n.up = 1))) || n.gone)) (by kernel_rfl) (by decide) (by kernel_rfl) (rrun_move (x := .tmp 34) (.inl (by kernel_rfl)) (hF.ev 34 (.bool ((((!decide (n.path = 1)) || (!(dirB n))) || (!decide (n.up = 1))) || n.gone)) rfl)) (fun a hF => ?_)
  rw [List.drop_eq_getElem_cons (show 18 < l_pc4.length by rw [len_pc4]; decide)]
  refine st_if hF 36 (((((!decide (n.path = 1)) || (!(dirB n))) || (!decide (n.up = 1))) || n.gone) == false) (ptr z 5) (by kernel_rfl) (by decide) (want_b (gi := 17) (g := 35) (c := ((((!decide (n.path = 1)) || (!(dirB n))) || (!decide (n.up = 1))) || n.gone)) hF (by kernel_rfl) (by kernel_rfl) rfl) (fun hW => rrun_fld (T := 89) (x := .tmp 3) (f := 5) (by kernel_rfl) (hF.ev 3 (ptr z 0) rfl) (by kernel_rfl)) (fun a hF => ?_)
  rw [List.drop_eq_getElem_cons (show 19 < l_pc4.length by rw [len_pc4]; decide)]
  refine st_if hF 37 (((((!decide (n.path = 1)) || (!(dirB n))) || (!decide (n.up = 1))) || n.gone) == false) (.string n.name) (by kernel_rfl) (by decide) (want_b (gi := 17) (g := 35) (c := ((((!decide (n.path = 1)) || (!(dirB n))) || (!decide (n.up = 1))) || n.gone)) hF (by kernel_rfl) (by kernel_rfl) rfl) (fun hW => rrun_load (ty := 9) (x := .tmp 36) (by kernel_rfl) ((hF.ev 36 (cond (((((!decide (n.path = 1)) || (!(dirB n))) || (!decide (n.up = 1))) || n.gone) == false) (ptr z 5) undef) rfl).trans (cond_t hW)) (rld_str (block_cell hS.nod 5))) (fun a hF => ?_)
  rw [List.drop_eq_getElem_cons (show 20 < l_pc4.length by rw [len_pc4]; decide)]
  refine st_if hF 38 (((((!decide (n.path = 1)) || (!(dirB n))) || (!decide (n.up = 1))) || n.gone) == false) (.bool (!decide (n.name = ⟨#[47]⟩))) (by kernel_rfl) (by decide) (want_b (gi := 17) (g := 35) (c := ((((!decide (n.path = 1)) || (!(dirB n))) || (!decide (n.up = 1))) || n.gone)) hF (by kernel_rfl) (by kernel_rfl) rfl) (fun hW => rrun_bin (op := .neq) (ty := 9) (ty2 := 9) (x := .tmp 37) (y := .const (.string ⟨#[47]⟩)) (u := .string n.name) (v := .string ⟨#[47]⟩) (by kernel_rfl) ((hF.ev 37 (cond (((((!decide (n.path = 1)) || (!(dirB n))) || (!decide (n.up = 1))) || n.gone) == false) (.string n.name) undef) rfl).trans (cond_t hW)) (rfl) (by kernel_rfl) (rne_str _ _ w)) (fun a hF => ?_)
  rw [List.drop_eq_getElem_cons (show 21 < l_pc4.length by rw [len_pc4]; decide)]
  refine st hF 39 (.bool (((((!decide (n.path = 1)) || (!(dirB n))) || (!decide (n.up = 1))) || n.gone) || (!decide (n.name = ⟨#[47]⟩)))) (by kernel_rfl) (by decide) (by kernel_rfl) (rrun_or (y := .const (.bool true)) (x := .tmp 35) (b := ((((!decide (n.path = 1)) || (!(dirB n))) || (!decide (n.up = 1))) || n.gone)) (b' := (!decide (n.name = ⟨#[47]⟩))) (by kernel_rfl) (hF.ev 35 _ rfl) rfl (hF.ev 38 (cond (((((!decide (n.path = 1)) || (!(dirB n))) || (!decide (n.up = 1))) || n.gone) == false) (.bool (!decide (n.name = ⟨#[47]⟩))) undef) rfl)) (fun a hF => ?_)
  rw [show l_pc4.drop 22 = [] from by kernel_rfl]
  exact hE _ _ (hF.sub ((39, .bool (((((!decide (n.path = 1)) || (!(dirB n))) || (!decide (n.up = 1))) || n.gone) || (!decide (n.name = ⟨#[47]⟩)))) :: [(3, ptr z 0), (0, v0), (1, v1), (2, v2), (4, v4), (5, v5), (6, v6), (7, v7), (8, v8), (9, v9), (42, v42), (43, v43), (53, v53), (58, v58), (63, v63), (64, v64), (65, v65)]) ⟨rfl, rfl, rfl, rfl, rfl, rfl, rfl, rfl, rfl, rfl, rfl, rfl, rfl, rfl, rfl, rfl, rfl, rfl, trivial⟩) hS
end
end Go.Proofs.YtkefjeabckainaaGreat

namespace Go.Proofs.YtkefjeabckainaaGreat
section
open Go.RowKit Go.Maps
set_option maxRecDepth 100000
set_option linter.unusedVariables false

section
variable {o : Oper} {ev : Operand → Value} {w : World} {x : Operand}
theorem rrun_nil {k i : Nat} (ho : o.op = .nilCheck x) (hx : ev x = ptr k i) : (execOp ev o).run Tryz.prog w = .ok (.value (ptr k i)) w := by
  simp [execOp, ho, hx, go_sem, ptr]
theorem rrun_call4 {y z y2 : Operand} {t u s r : TypeId} {fn : Nat} {v v2 v3 v4 : Value} (hf : ev (.func fn) = .func (.func fn) #[] #[]) (hc : (callFunc fn #[v, v2, v3, v4]).run Tryz.prog w = .ok (.enter fn #[v, v2, v3, v4]) w) (ho : o.op = .call { callee := .value (.func fn), args := #[x, y, z, y2], argTypes := #[t, u, s, r] }) (hx : ev x = v) (hy : ev y = v2) (hz : ev z = v3) (hw : ev y2 = v4) : (execOp ev o).run Tryz.prog w = .ok (.enter fn #[v, v2, v3, v4]) w := by
  simp [execOp, ho, hx, hy, hz, hw, hf, hc, go_sem]
end
theorem fld_tree {z o : Nat} {u v : Value} {w : World} (h0 : w.cell? ⟨z, o, none⟩ = some u) (h1 : w.cell? ⟨z, o + 1, none⟩ = some v) : (loadVar 30 ⟨z, o, none⟩).run Tryz.prog w = .ok (.agg #[u, v]) w := by
  have hl : (loadCells ⟨z, o, none⟩ 2).run Tryz.prog w = .ok #[u, v] w := by
    refine run_loadCells_list (P := Tryz.prog) (w := w) ⟨z, o, none⟩ [u, v] (fun j s hv => ?_)
    match j, hv with
    | 0, hv => cases hv; exact h0
    | 1, hv => cases hv; exact h1
  obtain ⟨i0, hi0, hz0⟩ : ∃ i0, Tryz.prog.info? 30 = some i0 ∧ i0.size = 2 := ⟨_, rfl, rfl⟩
  have hagg : (isAgg 30).run Tryz.prog w = .ok true w := by kernel_rfl
  simp [loadVar, Sem.run_bind, hagg, sizeOf, typeInfo, hi0, hz0, hl]
theorem fld_tab {p : Addr} {v : Value} {w : World} (h : w.cell? p = some v) : (loadVar 76 p).run Tryz.prog w = .ok v w := by simp [go_sem, h]

noncomputable def ops_fab1 : Array Oper := match Tryz.f47.body with | some c => (allOps' c).getD 1 #[] | none => #[]
theorem size_fab1 : ops_fab1.size = 13 := by kernel_rfl
set_option maxHeartbeats 4000000 in
theorem fab1_all {w1 : World} {b k5 m p n : Nat} {f : FsV} {u : Usr} {x : Nod} {a0 : Option Addr} {c0 : Nat} (hFo : FSo w1 b m (.slice a0 f.t.n.length c0) p f u n) (hx : w1.heap[k5]? = some (.cells x.cells 89 (0, 0))) (ht : TrOk f.t.n) {v1 : Value} {Q : Exit → Act → World → Prop} {a : Act} {w : World}
    (hQ : ∀ d u c a w, Q (.panic c) (a.put d u) w → Q (.panic c) a w) (hF : FrL 34 [(0, ptr b 0), (5, ptr k5 0), (1, v1)] a) (hS : Below w1.heap.size w1 w)
    (hE : ∀ a w' g, FrL 34 ((8, .bool (getL f.t.n x.up).isSome) :: (7, ptr g 0) :: [(0, ptr b 0), (5, ptr k5 0), (1, v1)]) a → Below w1.heap.size w1 w' → w'.heap[g]? = some (.cells (getN f.t.n x.up).cells 89 (0, 0)) → w1.heap.size ≤ g → Q .normal a w') :
    wpAnyH Tryz.prog .any ops_fab1 Q (Below w1.heap.size w1) 13 (Array.replicate 13 false) a w := by
  refine hst (i := 0) (o := ops_fab1[0]'(show 0 < ops_fab1.size by rw [size_fab1]; decide)) hF 10 true (ptr b 0) (Array.getElem?_eq_getElem (show 0 < ops_fab1.size by rw [size_fab1]; decide)) (by kernel_rfl) (by decide) (by kernel_rfl) (by kernel_rfl) (by kernel_rfl) (hQ _ _) (want_n (by kernel_rfl)) (fun hW w hS => rrun_move (x := .tmp 0) (.inl (by kernel_rfl)) (hF.ev 0 (ptr b 0) rfl)) hS (fun a hF => ?_)
  rw [show cond true (ptr b 0) undef = ptr b 0 from rfl] at hF
  refine hst (i := 1) (o := ops_fab1[1]'(show 1 < ops_fab1.size by rw [size_fab1]; decide)) hF 11 true (ptr b 0) (Array.getElem?_eq_getElem (show 1 < ops_fab1.size by rw [size_fab1]; decide)) (by kernel_rfl) (by decide) (by kernel_rfl) (by kernel_rfl) (by kernel_rfl) (hQ _ _) (want_n (by kernel_rfl)) (fun hW w hS => rrun_nil (x := .tmp 10) (by kernel_rfl) (hF.ev 10 (ptr b 0) rfl)) hS (fun a hF => ?_)
  rw [show cond true (ptr b 0) undef = ptr b 0 from rfl] at hF
  refine hst (i := 2) (o := ops_fab1[2]'(show 2 < ops_fab1.size by rw [size_fab1]; decide)) hF 12 true (ptr b 0) (Array.getElem?_eq_getElem (show 2 < ops_fab1.size by rw [size_fab1]; decide)) (by kernel_rfl) (by decide) (by kernel_rfl) (by kernel_rfl) (by kernel_rfl) (hQ _ _) (want_n (by kernel_rfl)) (fun hW w hS => rrun_fld (T := 93) (x := .tmp 11) (f := 0) (by kernel_rfl) (hF.ev 11 (ptr b 0) rfl) (by kernel_rfl)) hS (fun a hF => ?_)
  rw [show cond true (ptr b 0) undef = ptr b 0 from rfl] at hF
  refine hst (i := 3) (o := ops_fab1[3]'(show 3 < ops_fab1.size by rw [size_fab1]; decide)) hF 13 true (.agg #[.int .u64 ((f.t.next : Nat) : Int), .slice a0 f.t.n.length c0]) (Array.getElem?_eq_getElem (show 3 < ops_fab1.size by rw [size_fab1]; decide)) (by kernel_rfl) (by decide) (by kernel_rfl) (by kernel_rfl) (by kernel_rfl) (hQ _ _) (want_n (by kernel_rfl)) (fun hW w hS => rrun_load (ty := 30) (x := .tmp 12) (by kernel_rfl) (hF.ev 12 (ptr b 0) rfl) (fld_tree (block_cell (hFo.below hS).blk 0) (block_cell (hFo.below hS).blk 1))) hS (fun a hF => ?_)
  rw [show cond true (.agg #[.int .u64 ((f.t.next : Nat) : Int), .slice a0 f.t.n.length c0]) undef = .agg #[.int .u64 ((f.t.next : Nat) : Int), .slice a0 f.t.n.length c0] from rfl] at hF
  refine hst (i := 4) (o := ops_fab1[4]'(show 4 < ops_fab1.size by rw [size_fab1]; decide)) hF 14 true (ptr k5 9) (Array.getElem?_eq_getElem (show 4 < ops_fab1.size by rw [size_fab1]; decide)) (by kernel_rfl) (by decide) (by kernel_rfl) (by kernel_rfl) (by kernel_rfl) (hQ _ _) (want_n (by kernel_rfl)) (fun hW w hS => rrun_fld (T := 89) (x := .tmp 5) (f := 9) (by kernel_rfl) (hF.ev 5 (ptr k5 0) rfl) (by kernel_rfl)) hS (fun a hF => ?_)
  rw [show cond true (ptr k5 9) undef = ptr k5 9 from rfl] at hF
  refine hst (i := 5) (o := ops_fab1[5]'(show 5 < ops_fab1.size by rw [size_fab1]; decide)) hF 15 true (.int .u64 ((x.up : Nat) : Int)) (Array.getElem?_eq_getElem (show 5 < ops_fab1.size by rw [size_fab1]; decide)) (by kernel_rfl) (by decide) (by kernel_rfl) (by kernel_rfl) (by kernel_rfl) (hQ _ _) (want_n (by kernel_rfl)) (fun hW w hS => rrun_load (ty := 27) (x := .tmp 14) (by kernel_rfl) (hF.ev 14 (ptr k5 9) rfl) (rld_u64 (block_cell ((hS.block _ (lt_of_block hx)).trans hx) 9))) hS (fun a hF => ?_)
  rw [show cond true (.int .u64 ((x.up : Nat) : Int)) undef = .int .u64 ((x.up : Nat) : Int) from rfl] at hF
  refine wpAnyH_all (rs := [6, 10]) (by kernel_rfl) (by simp) fun j hj => ?_
  have hj2 : j = 6 ∨ j = 10 := by simpa using hj
  rcases hj2 with rfl | rfl
  · skip
    refine hdoc (i := 6) (o := ops_fab1[6]'(show 6 < ops_fab1.size by rw [size_fab1]; decide)) (R := fun v w' => v = .tuple #[.agg (getN f.t.n x.up).cells, .bool (getL f.t.n x.up).isSome] ∧ Below w.heap.size w w') hF 16 (Array.getElem?_eq_getElem (show 6 < ops_fab1.size by rw [size_fab1]; decide)) (by kernel_rfl) (by decide) (want_n (by kernel_rfl)) ⟨45, #[.agg #[.int .u64 ((f.t.next : Nat) : Int), .slice a0 f.t.n.length c0], .int .u64 ((x.up : Nat) : Int)], rrun_call2 (x := .tmp 13) (y := .tmp 15) (fn := 45) (t := 30) (u := 27) rfl (by kernel_rfl) (by kernel_rfl) (hF.ev 13 _ rfl) (hF.ev 15 _ rfl), (get_any _ f.t.next f.t.n x.up w (hFo.below hS).row ht.sort (by have := ht.few; omega)).mono (by rintro e w' ⟨rfl, h⟩; exact ⟨_, rfl, rfl, h⟩)⟩ ?_
    rintro _ a wc ⟨rfl, hb⟩ hF
    replace hS := hS.trans (hb.mono hS.size)
    refine ⟨hS, ?_⟩
    clear hb
    refine hst (i := 7) (o := ops_fab1[7]'(show 7 < ops_fab1.size by rw [size_fab1]; decide)) hF 9 true (.tuple #[.agg (getN f.t.n x.up).cells, .bool (getL f.t.n x.up).isSome]) (Array.getElem?_eq_getElem (show 7 < ops_fab1.size by rw [size_fab1]; decide)) (by kernel_rfl) (by decide) (by kernel_rfl) (by kernel_rfl) (by kernel_rfl) (hQ _ _) (want_n (by kernel_rfl)) (fun hW w hS => rrun_move (x := .tmp 16) (.inl (by kernel_rfl)) (hF.ev 16 _ rfl)) hS (fun a hF => ?_)
    rw [show cond true (.tuple #[.agg (getN f.t.n x.up).cells, .bool (getL f.t.n x.up).isSome]) undef = .tuple #[.agg (getN f.t.n x.up).cells, .bool (getL f.t.n x.up).isSome] from rfl] at hF
    refine hst (i := 8) (o := ops_fab1[8]'(show 8 < ops_fab1.size by rw [size_fab1]; decide)) hF 17 true (.agg (getN f.t.n x.up).cells) (Array.getElem?_eq_getElem (show 8 < ops_fab1.size by rw [size_fab1]; decide)) (by kernel_rfl) (by decide) (by kernel_rfl) (by kernel_rfl) (by kernel_rfl) (hQ _ _) (want_n (by kernel_rfl)) (fun hW w hS => rrun_ext (x := .tmp 9) (n := 0) (by kernel_rfl) (hF.ev 9 _ rfl) rfl) hS (fun a hF => ?_)
    rw [show cond true (.agg (getN f.t.n x.up).cells) undef = .agg (getN f.t.n x.up).cells from rfl] at hF
    refine hst (i := 9) (o := ops_fab1[9]'(show 9 < ops_fab1.size by rw [size_fab1]; decide)) hF 18 true (.bool (getL f.t.n x.up).isSome) (Array.getElem?_eq_getElem (show 9 < ops_fab1.size by rw [size_fab1]; decide)) (by kernel_rfl) (by decide) (by kernel_rfl) (by kernel_rfl) (by kernel_rfl) (hQ _ _) (want_n (by kernel_rfl)) (fun hW w hS => rrun_ext (x := .tmp 9) (n := 1) (by kernel_rfl) (hF.ev 9 _ rfl) rfl) hS (fun a hF => ?_)
    rw [show cond true (.bool (getL f.t.n x.up).isSome) undef = .bool (getL f.t.n x.up).isSome from rfl] at hF
    refine wpAnyH_all (rs := [10]) (by kernel_rfl) (by simp) fun j hj => ?_
    obtain rfl : j = 10 := by simpa using hj
    refine hdo (i := 10) (o := ops_fab1[10]'(show 10 < ops_fab1.size by rw [size_fab1]; decide)) hF 7 (ptr wc.heap.size 0) (wc.alloc (.cells zeroNod.cells 89)) (Array.getElem?_eq_getElem (show 10 < ops_fab1.size by rw [size_fab1]; decide)) (by kernel_rfl) (by decide) (want_n (by kernel_rfl)) (rrun_alloc (t := 89) (z := .agg zeroNod.cells) (by kernel_rfl) (by kernel_rfl)) (fun a hF => ?_)
    have hb := (Below.refl wc.heap.size wc).alloc (Nat.le_refl _) (.cells zeroNod.cells 89)
    have gA := hS.size
    have fA := heap_alloc_new wc (.cells zeroNod.cells 89)
    replace hS := hS.trans (hb.mono hS.size)
    refine ⟨hS, ?_⟩
    clear hb
    generalize wc.alloc (.cells zeroNod.cells 89) = wca at hS fA ⊢
    generalize wc.heap.size = g at fA gA hF
    refine wpAnyH_all (rs := [11]) (by kernel_rfl) (by simp) fun j hj => ?_
    obtain rfl : j = 11 := by simpa using hj
    refine hdo0 (o := ops_fab1[11]'(show 11 < ops_fab1.size by rw [size_fab1]; decide)) (wca.setRow g (getN f.t.n x.up).cells) (Array.getElem?_eq_getElem (show 11 < ops_fab1.size by rw [size_fab1]; decide)) (by kernel_rfl) (want_n (by kernel_rfl)) (rrun_store (t := 89) (x := .tmp 7) (y := .tmp 17) (by kernel_rfl) (hF.ev 7 _ rfl) (hF.ev 17 _ rfl) fA (by kernel_rfl) rfl (nod_one _)) ?_
    have hS3 := below_setRow (g := g) hS gA (getN f.t.n x.up).cells
    refine ⟨hS3, ?_⟩
    have fA3 := setRow_heap wca g _ (getN f.t.n x.up).cells _ _ fA
    generalize wca.setRow g (getN f.t.n x.up).cells = wz at hS3 fA3 ⊢
    refine hst (i := 12) (o := ops_fab1[12]'(show 12 < ops_fab1.size by rw [size_fab1]; decide)) hF 8 true (.bool (getL f.t.n x.up).isSome) (Array.getElem?_eq_getElem (show 12 < ops_fab1.size by rw [size_fab1]; decide)) (by kernel_rfl) (by decide) (by kernel_rfl) (by kernel_rfl) (by kernel_rfl) (hQ _ _) (want_n (by kernel_rfl)) (fun hW w hS => rrun_move (x := .tmp 18) (.inr (by kernel_rfl)) (hF.ev 18 _ rfl)) hS3 (fun a hF => ?_)
    rw [show cond true (.bool (getL f.t.n x.up).isSome) undef = .bool (getL f.t.n x.up).isSome from rfl] at hF
    exact wpAnyH_done (by kernel_rfl) (hE _ _ g (hF.sub ((8, .bool (getL f.t.n x.up).isSome) :: (7, ptr g 0) :: [(0, ptr b 0), (5, ptr k5 0), (1, v1)]) ⟨rfl, rfl, rfl, rfl, rfl, trivial⟩) hS3 fA3 gA) _
  · skip
    refine hdo (i := 10) (o := ops_fab1[10]'(show 10 < ops_fab1.size by rw [size_fab1]; decide)) hF 7 (ptr w.heap.size 0) (w.alloc (.cells zeroNod.cells 89)) (Array.getElem?_eq_getElem (show 10 < ops_fab1.size by rw [size_fab1]; decide)) (by kernel_rfl) (by decide) (want_n (by kernel_rfl)) (rrun_alloc (t := 89) (z := .agg zeroNod.cells) (by kernel_rfl) (by kernel_rfl)) (fun a hF => ?_)
    have hb := (Below.refl w.heap.size w).alloc (Nat.le_refl _) (.cells zeroNod.cells 89)
    have gA := hS.size
    have fA := heap_alloc_new w (.cells zeroNod.cells 89)
    replace hS := hS.trans (hb.mono hS.size)
    refine ⟨hS, ?_⟩
    clear hb
    generalize w.alloc (.cells zeroNod.cells 89) = wa at hS fA ⊢
    generalize w.heap.size = g at fA gA hF
    refine wpAnyH_all (rs := [6]) (by kernel_rfl) (by simp) fun j hj => ?_
    obtain rfl : j = 6 := by simpa using hj
    refine hdoc (i := 6) (o := ops_fab1[6]'(show 6 < ops_fab1.size by rw [size_fab1]; decide)) (R := fun v w' => v = .tuple #[.agg (getN f.t.n x.up).cells, .bool (getL f.t.n x.up).isSome] ∧ Below wa.heap.size wa w') hF 16 (Array.getElem?_eq_getElem (show 6 < ops_fab1.size by rw [size_fab1]; decide)) (by kernel_rfl) (by decide) (want_n (by kernel_rfl)) ⟨45, #[.agg #[.int .u64 ((f.t.next : Nat) : Int), .slice a0 f.t.n.length c0], .int .u64 ((x.up : Nat) : Int)], rrun_call2 (x := .tmp 13) (y := .tmp 15) (fn := 45) (t := 30) (u := 27) rfl (by kernel_rfl) (by kernel_rfl) (hF.ev 13 _ rfl) (hF.ev 15 _ rfl), (get_any _ f.t.next f.t.n x.up wa (hFo.below hS).row ht.sort (by have := ht.few; omega)).mono (by rintro e w' ⟨rfl, h⟩; exact ⟨_, rfl, rfl, h⟩)⟩ ?_
    rintro _ a wac ⟨rfl, hb⟩ hF
    replace hS := hS.trans (hb.mono hS.size)
    replace fA := (hb.block _ (lt_of_block fA)).trans fA
    refine ⟨hS, ?_⟩
    clear hb
    refine hst (i := 7) (o := ops_fab1[7]'(show 7 < ops_fab1.size by rw [size_fab1]; decide)) hF 9 true (.tuple #[.agg (getN f.t.n x.up).cells, .bool (getL f.t.n x.up).isSome]) (Array.getElem?_eq_getElem (show 7 < ops_fab1.size by rw [size_fab1]; decide)) (by kernel_rfl) (by decide) (by kernel_rfl) (by kernel_rfl) (by kernel_rfl) (hQ _ _) (want_n (by kernel_rfl)) (fun hW w hS => rrun_move (x := .tmp 16) (.inl (by kernel_rfl)) (hF.ev 16 _ rfl)) hS (fun a hF => ?_)
    rw [show cond true (.tuple #[.agg (getN f.t.n x.up).cells, .bool (getL f.t.n x.up).isSome]) undef = .tuple #[.agg (getN f.t.n x.up).cells, .bool (getL f.t.n x.up).isSome] from rfl] at hF
    refine hst (i := 8) (o := ops_fab1[8]'(show 8 < ops_fab1.size by rw [size_fab1]; decide)) hF 17 true (.agg (getN f.t.n x.up).cells) (Array.getElem?_eq_getElem (show 8 < ops_fab1.size by rw [size_fab1]; decide)) (by kernel_rfl) (by decide) (by kernel_rfl) (by kernel_rfl) (by kernel_rfl) (hQ _ _) (want_n (by kernel_rfl)) (fun hW w hS => rrun_ext (x := .tmp 9) (n := 0) (by kernel_rfl) (hF.ev 9 _ rfl) rfl) hS (fun a hF => ?_)
    rw [show cond true (.agg (getN f.t.n x.up).cells) undef = .agg (getN f.t.n x.up).cells from rfl] at hF
    refine hst (i := 9) (o := ops_fab1[9]'(show 9 < ops_fab1.size by rw [size_fab1]; decide)) hF 18 true (.bool (getL f.t.n x.up).isSome) (Array.getElem?_eq_getElem (show 9 < ops_fab1.size by rw [size_fab1]; decide)) (by kernel_rfl) (by decide) (by kernel_rfl) (by kernel_rfl) (by kernel_rfl) (hQ _ _) (want_n (by kernel_rfl)) (fun hW w hS => rrun_ext (x := .tmp 9) (n := 1) (by kernel_rfl) (hF.ev 9 _ rfl) rfl) hS (fun a hF => ?_)
    rw [show cond true (.bool (getL f.t.n x.up).isSome) undef = .bool (getL f.t.n x.up).isSome from rfl] at hF
    refine wpAnyH_all (rs := [11]) (by kernel_rfl) (by simp) fun j hj => ?_
    obtain rfl : j = 11 := by simpa using hj
    refine hdo0 (o := ops_fab1[11]'(show 11 < ops_fab1.size by rw [size_fab1]; decide)) (wac.setRow g (getN f.t.n x.up).cells) (Array.getElem?_eq_getElem (show 11 < ops_fab1.size by rw [size_fab1]; decide)) (by kernel_rfl) (want_n (by kernel_rfl)) (rrun_store (t := 89) (x := .tmp 7) (y := .tmp 17) (by kernel_rfl) (hF.ev 7 _ rfl) (hF.ev 17 _ rfl) fA (by kernel_rfl) rfl (nod_one _)) ?_
    have hS3 := below_setRow (g := g) hS gA (getN f.t.n x.up).cells
    refine ⟨hS3, ?_⟩
    have fA3 := setRow_heap wac g _ (getN f.t.n x.up).cells _ _ fA
    generalize wac.setRow g (getN f.t.n x.up).cells = wz at hS3 fA3 ⊢
    refine hst (i := 12) (o := ops_fab1[12]'(show 12 < ops_fab1.size by rw [size_fab1]; decide)) hF 8 true (.bool (getL f.t.n x.up).isSome) (Array.getElem?_eq_getElem (show 12 < ops_fab1.size by rw [size_fab1]; decide)) (by kernel_rfl) (by decide) (by kernel_rfl) (by kernel_rfl) (by kernel_rfl) (hQ _ _) (want_n (by kernel_rfl)) (fun hW w hS => rrun_move (x := .tmp 18) (.inr (by kernel_rfl)) (hF.ev 18 _ rfl)) hS3 (fun a hF => ?_)
    rw [show cond true (.bool (getL f.t.n x.up).isSome) undef = .bool (getL f.t.n x.up).isSome from rfl] at hF
    exact wpAnyH_done (by kernel_rfl) (hE _ _ g (hF.sub ((8, .bool (getL f.t.n x.up).isSome) :: (7, ptr g 0) :: [(0, ptr b 0), (5, ptr k5 0), (1, v1)]) ⟨rfl, rfl, rfl, rfl, rfl, trivial⟩) hS3 fA3 gA) _
noncomputable def ops_fab2 : Array Oper := match Tryz.f47.body with | some c => (allOps' c).getD 2 #[] | none => #[]
theorem size_fab2 : ops_fab2.size = 16 := by kernel_rfl
set_option maxHeartbeats 4000000 in
theorem fab2_all {w1 : World} {b k5 k7 m p n : Nat} {v : Value} {f : FsV} {u : Usr} {x d : Nod} {who : ByteArray} {ok : Bool} (hFo : FSo w1 b m v p f u n) (hub : UB u.us u.gs) (hx : w1.heap[k5]? = some (.cells x.cells 89 (0, 0))) (hd : w1.heap[k7]? = some (.cells d.cells 89 (0, 0))) (hdk : ok = true → NodOk d)  {v0 : Value} {Q : Exit → Act → World → Prop} {a : Act} {w : World} (hQ : ∀ d u c a w, Q (.panic c) (a.put d u) w → Q (.panic c) a w) (hF : FrL 34 [(0, ptr b 0), (1, .string who), (5, ptr k5 0), (7, ptr k7 0), (8, .bool ok)] a) (hS : (Below w1.heap.size w1) w) (hE : ∀ a w', FrL 34 ((6, .bool (((!decide (x.path = 1)) && ok) && (u.may who d 2))) :: [(0, ptr b 0), (1, .string who), (5, ptr k5 0), (7, ptr k7 0), (8, .bool ok)]) a → (Below w1.heap.size w1) w' → Q .normal a w') : wpAnyH Tryz.prog .any ops_fab2 Q ((Below w1.heap.size w1)) 16 (Array.replicate 16 false) a w := by
  refine hst (i := 0) (o := ops_fab2[0]'(show 0 < ops_fab2.size by rw [size_fab2]; decide)) hF 19 true (ptr k5 0) (Array.getElem?_eq_getElem (show 0 < ops_fab2.size by rw [size_fab2]; decide)) (by kernel_rfl) (by decide) (by kernel_rfl) (by kernel_rfl) (by kernel_rfl) (hQ _ _) (want_n (by kernel_rfl)) (fun hW w hS => rrun_fld (T := 89) (x := .tmp 5) (f := 0) (by kernel_rfl) (hF.ev 5 (ptr k5 0) rfl) (by kernel_rfl)) hS (fun a hF => ?_)
  rw [show cond true (ptr k5 0) undef = ptr k5 0 from rfl] at hF
  refine hst (i := 1) (o := ops_fab2[1]'(show 1 < ops_fab2.size by rw [size_fab2]; decide)) hF 20 true (.int .u64 ((x.path : Nat) : Int)) (Array.getElem?_eq_getElem (show 1 < ops_fab2.size by rw [size_fab2]; decide)) (by kernel_rfl) (by decide) (by kernel_rfl) (by kernel_rfl) (by kernel_rfl) (hQ _ _) (want_n (by kernel_rfl)) (fun hW w hS => rrun_load (ty := 27) (x := .tmp 19) (by kernel_rfl) (hF.ev 19 (ptr k5 0) rfl) (rld_u64 (block_cell ((hS.block _ (lt_of_block hx)).trans hx) 0))) hS (fun a hF => ?_)
  rw [show cond true (.int .u64 ((x.path : Nat) : Int)) undef = .int .u64 ((x.path : Nat) : Int) from rfl] at hF
  refine hst (i := 2) (o := ops_fab2[2]'(show 2 < ops_fab2.size by rw [size_fab2]; decide)) hF 21 true (.bool (!decide (x.path = 1))) (Array.getElem?_eq_getElem (show 2 < ops_fab2.size by rw [size_fab2]; decide)) (by kernel_rfl) (by decide) (by kernel_rfl) (by kernel_rfl) (by kernel_rfl) (hQ _ _) (want_n (by kernel_rfl)) (fun hW w hS => rrun_bin (op := .neq) (ty := 27) (ty2 := 27) (x := .tmp 20) (y := .const (.int .u64 1)) (u := .int .u64 ((x.path : Nat) : Int)) (v := .int .u64 ((1 : Nat) : Int)) (by kernel_rfl) (hF.ev 20 (.int .u64 ((x.path : Nat) : Int)) rfl) (rfl) (by kernel_rfl) (rne_u64 _ _ w)) hS (fun a hF => ?_)
  rw [show cond true (.bool (!decide (x.path = 1))) undef = .bool (!decide (x.path = 1)) from rfl] at hF
  refine hst (i := 3) (o := ops_fab2[3]'(show 3 < ops_fab2.size by rw [size_fab2]; decide)) hF 22 true (.bool (!decide (x.path = 1))) (Array.getElem?_eq_getElem (show 3 < ops_fab2.size by rw [size_fab2]; decide)) (by kernel_rfl) (by decide) (by kernel_rfl) (by kernel_rfl) (by kernel_rfl) (hQ _ _) (want_n (by kernel_rfl)) (fun hW w hS => rrun_move (x := .tmp 21) (.inl (by kernel_rfl)) (hF.ev 21 (.bool (!decide (x.path = 1))) rfl)) hS (fun a hF => ?_)
  rw [show cond true (.bool (!decide (x.path = 1))) undef = .bool (!decide (x.path = 1)) from rfl] at hF
  refine hst (i := 4) (o := ops_fab2[4]'(show 4 < ops_fab2.size by rw [size_fab2]; decide)) hF 23 ((!decide (x.path = 1)) == true) (.bool ok) (Array.getElem?_eq_getElem (show 4 < ops_fab2.size by rw [size_fab2]; decide)) (by kernel_rfl) (by decide) (by kernel_rfl) (by kernel_rfl) (by kernel_rfl) (hQ _ _) (want_b (gi := 3) (g := 22) (c := (!decide (x.path = 1))) hF (by kernel_rfl) (by kernel_rfl) rfl) (fun hW w hS => rrun_move (x := .tmp 8) (.inl (by kernel_rfl)) (hF.ev 8 (.bool ok) rfl)) hS (fun a hF => ?_)
  refine hst (i := 5) (o := ops_fab2[5]'(show 5 < ops_fab2.size by rw [size_fab2]; decide)) hF 24 true (.bool ((!decide (x.path = 1)) && ok)) (Array.getElem?_eq_getElem (show 5 < ops_fab2.size by rw [size_fab2]; decide)) (by kernel_rfl) (by decide) (by kernel_rfl) (by kernel_rfl) (by kernel_rfl) (hQ _ _) (want_n (by kernel_rfl)) (fun hW w hS => rrun_and (z := .const (.bool false)) (x := .tmp 22) (c := (!decide (x.path = 1))) (b := ok) (by kernel_rfl) (hF.ev 22 _ rfl) (hF.ev 23 (cond ((!decide (x.path = 1)) == true) (.bool ok) undef) rfl) rfl) hS (fun a hF => ?_)
  rw [show cond true (.bool ((!decide (x.path = 1)) && ok)) undef = .bool ((!decide (x.path = 1)) && ok) from rfl] at hF
  refine hst (i := 6) (o := ops_fab2[6]'(show 6 < ops_fab2.size by rw [size_fab2]; decide)) hF 25 true (.bool ((!decide (x.path = 1)) && ok)) (Array.getElem?_eq_getElem (show 6 < ops_fab2.size by rw [size_fab2]; decide)) (by kernel_rfl) (by decide) (by kernel_rfl) (by kernel_rfl) (by kernel_rfl) (hQ _ _) (want_n (by kernel_rfl)) (fun hW w hS => rrun_move (x := .tmp 24) (.inl (by kernel_rfl)) (hF.ev 24 (.bool ((!decide (x.path = 1)) && ok)) rfl)) hS (fun a hF => ?_)
  rw [show cond true (.bool ((!decide (x.path = 1)) && ok)) undef = .bool ((!decide (x.path = 1)) && ok) from rfl] at hF
  refine hst (i := 7) (o := ops_fab2[7]'(show 7 < ops_fab2.size by rw [size_fab2]; decide)) hF 26 (((!decide (x.path = 1)) && ok) == true) (ptr b 0) (Array.getElem?_eq_getElem (show 7 < ops_fab2.size by rw [size_fab2]; decide)) (by kernel_rfl) (by decide) (by kernel_rfl) (by kernel_rfl) (by kernel_rfl) (hQ _ _) (want_b (gi := 6) (g := 25) (c := ((!decide (x.path = 1)) && ok)) hF (by kernel_rfl) (by kernel_rfl) rfl) (fun hW w hS => rrun_move (x := .tmp 0) (.inl (by kernel_rfl)) (hF.ev 0 (ptr b 0) rfl)) hS (fun a hF => ?_)
  refine hst (i := 8) (o := ops_fab2[8]'(show 8 < ops_fab2.size by rw [size_fab2]; decide)) hF 27 (((!decide (x.path = 1)) && ok) == true) (ptr b 0) (Array.getElem?_eq_getElem (show 8 < ops_fab2.size by rw [size_fab2]; decide)) (by kernel_rfl) (by decide) (by kernel_rfl) (by kernel_rfl) (by kernel_rfl) (hQ _ _) (want_b (gi := 6) (g := 25) (c := ((!decide (x.path = 1)) && ok)) hF (by kernel_rfl) (by kernel_rfl) rfl) (fun hW w hS => rrun_nil (x := .tmp 26) (by kernel_rfl) ((hF.ev 26 (cond (((!decide (x.path = 1)) && ok) == true) (ptr b 0) undef) rfl).trans (cond_t hW))) hS (fun a hF => ?_)
  refine hst (i := 9) (o := ops_fab2[9]'(show 9 < ops_fab2.size by rw [size_fab2]; decide)) hF 28 (((!decide (x.path = 1)) && ok) == true) (ptr b 2) (Array.getElem?_eq_getElem (show 9 < ops_fab2.size by rw [size_fab2]; decide)) (by kernel_rfl) (by decide) (by kernel_rfl) (by kernel_rfl) (by kernel_rfl) (hQ _ _) (want_b (gi := 6) (g := 25) (c := ((!decide (x.path = 1)) && ok)) hF (by kernel_rfl) (by kernel_rfl) rfl) (fun hW w hS => rrun_fld (T := 93) (x := .tmp 27) (f := 1) (by kernel_rfl) ((hF.ev 27 (cond (((!decide (x.path = 1)) && ok) == true) (ptr b 0) undef) rfl).trans (cond_t hW)) (by kernel_rfl)) hS (fun a hF => ?_)
  refine hst (i := 10) (o := ops_fab2[10]'(show 10 < ops_fab2.size by rw [size_fab2]; decide)) hF 29 (((!decide (x.path = 1)) && ok) == true) (ptr p 0) (Array.getElem?_eq_getElem (show 10 < ops_fab2.size by rw [size_fab2]; decide)) (by kernel_rfl) (by decide) (by kernel_rfl) (by kernel_rfl) (by kernel_rfl) (hQ _ _) (want_b (gi := 6) (g := 25) (c := ((!decide (x.path = 1)) && ok)) hF (by kernel_rfl) (by kernel_rfl) rfl) (fun hW w hS => rrun_load (ty := 76) (x := .tmp 28) (by kernel_rfl) ((hF.ev 28 (cond (((!decide (x.path = 1)) && ok) == true) (ptr b 2) undef) rfl).trans (cond_t hW)) (fld_tab (block_cell (hFo.below hS).blk 2))) hS (fun a hF => ?_)
  refine hst (i := 11) (o := ops_fab2[11]'(show 11 < ops_fab2.size by rw [size_fab2]; decide)) hF 30 (((!decide (x.path = 1)) && ok) == true) (.string who) (Array.getElem?_eq_getElem (show 11 < ops_fab2.size by rw [size_fab2]; decide)) (by kernel_rfl) (by decide) (by kernel_rfl) (by kernel_rfl) (by kernel_rfl) (hQ _ _) (want_b (gi := 6) (g := 25) (c := ((!decide (x.path = 1)) && ok)) hF (by kernel_rfl) (by kernel_rfl) rfl) (fun hW w hS => rrun_move (x := .tmp 1) (.inl (by kernel_rfl)) (hF.ev 1 (.string who) rfl)) hS (fun a hF => ?_)
  refine hst (i := 12) (o := ops_fab2[12]'(show 12 < ops_fab2.size by rw [size_fab2]; decide)) hF 31 (((!decide (x.path = 1)) && ok) == true) (.agg d.cells) (Array.getElem?_eq_getElem (show 12 < ops_fab2.size by rw [size_fab2]; decide)) (by kernel_rfl) (by decide) (by kernel_rfl) (by kernel_rfl) (by kernel_rfl) (hQ _ _) (want_b (gi := 6) (g := 25) (c := ((!decide (x.path = 1)) && ok)) hF (by kernel_rfl) (by kernel_rfl) rfl) (fun hW w hS => rrun_load (ty := 89) (x := .tmp 7) (by kernel_rfl) (hF.ev 7 (ptr k7 0) rfl) (rld_nnode (range_wholeP ((hS.block _ (lt_of_block hd)).trans hd)))) hS (fun a hF => ?_)
  refine hcall (i := 13) (o := ops_fab2[13]'(show 13 < ops_fab2.size by rw [size_fab2]; decide)) hF 32 (((!decide (x.path = 1)) && ok) == true) (.bool (u.may who d 2)) (Array.getElem?_eq_getElem (show 13 < ops_fab2.size by rw [size_fab2]; decide)) (by kernel_rfl) (by decide) (by kernel_rfl) (want_b (gi := 6) (g := 25) (c := ((!decide (x.path = 1)) && ok)) hF (by kernel_rfl) (by kernel_rfl) rfl) (fun hW => ⟨39, #[ptr p 0, .string who, .agg d.cells, .int .u32 ((2 : Nat) : Int)], rrun_call4 (fn := 39) (y2 := .const (.int .u32 2)) (t := 76) (u := 9) (s := 89) (r := 32) rfl (by kernel_rfl) (by kernel_rfl) ((hF.ev 29 (cond (((!decide (x.path = 1)) && ok) == true) (ptr p 0) undef) rfl).trans (cond_t hW)) ((hF.ev 30 (cond (((!decide (x.path = 1)) && ok) == true) (.string who) undef) rfl).trans (cond_t hW)) ((hF.ev 31 (cond (((!decide (x.path = 1)) && ok) == true) (.agg d.cells) undef) rfl).trans (cond_t hW)) (rfl), (pmay_any p u.us u.gs who d 2 w (hFo.below hS).tabs hub (hdk (by revert hW; cases ok <;> simp)) (by omega)).mono (by rintro e w' ⟨rfl, hb⟩; exact ⟨rfl, hS.trans (hb.mono hS.size)⟩)⟩) hS (fun a w hF hS => ?_)
  refine hst (i := 14) (o := ops_fab2[14]'(show 14 < ops_fab2.size by rw [size_fab2]; decide)) hF 33 true (.bool (((!decide (x.path = 1)) && ok) && (u.may who d 2))) (Array.getElem?_eq_getElem (show 14 < ops_fab2.size by rw [size_fab2]; decide)) (by kernel_rfl) (by decide) (by kernel_rfl) (by kernel_rfl) (by kernel_rfl) (hQ _ _) (want_n (by kernel_rfl)) (fun hW w hS => rrun_and (z := .const (.bool false)) (x := .tmp 25) (c := ((!decide (x.path = 1)) && ok)) (b := (u.may who d 2)) (by kernel_rfl) (hF.ev 25 _ rfl) (hF.ev 32 (cond (((!decide (x.path = 1)) && ok) == true) (.bool (u.may who d 2)) undef) rfl) rfl) hS (fun a hF => ?_)
  rw [show cond true (.bool (((!decide (x.path = 1)) && ok) && (u.may who d 2))) undef = .bool (((!decide (x.path = 1)) && ok) && (u.may who d 2)) from rfl] at hF
  refine hst (i := 15) (o := ops_fab2[15]'(show 15 < ops_fab2.size by rw [size_fab2]; decide)) hF 6 true (.bool (((!decide (x.path = 1)) && ok) && (u.may who d 2))) (Array.getElem?_eq_getElem (show 15 < ops_fab2.size by rw [size_fab2]; decide)) (by kernel_rfl) (by decide) (by kernel_rfl) (by kernel_rfl) (by kernel_rfl) (hQ _ _) (want_n (by kernel_rfl)) (fun hW w hS => rrun_move (x := .tmp 33) (.inr (by kernel_rfl)) (hF.ev 33 (.bool (((!decide (x.path = 1)) && ok) && (u.may who d 2))) rfl)) hS (fun a hF => ?_)
  rw [show cond true (.bool (((!decide (x.path = 1)) && ok) && (u.may who d 2))) undef = .bool (((!decide (x.path = 1)) && ok) && (u.may who d 2)) from rfl] at hF
  exact wpAnyH_done (by kernel_rfl) (hE _ _ (hF.sub ((6, .bool (((!decide (x.path = 1)) && ok) && (u.may who d 2))) :: [(0, ptr b 0), (1, .string who), (5, ptr k5 0), (7, ptr k7 0), (8, .bool ok)]) ⟨rfl, rfl, rfl, rfl, rfl, rfl, trivial⟩) hS) _
set_option maxHeartbeats 3200000 in
theorem fabove_any (b m p n : Nat) (v : Value) (f : FsV) (u : Usr) (who : ByteArray) (x : Nod) (w : World) (h : FSo w b m v p f u n) (ht : TrOk f.t.n) (hub : UB u.us u.gs) :
    Calls Tryz.prog 47 #[.pointer (some ⟨b, 0, none⟩), .string who, .agg x.cells] w fun e w' => e = .returned (.bool (aboveF u f who x)) ∧ Below w.heap.size w w' := by
  have mixed : Tryz.prog.follows Departure.mixedOrders = true := by first | kernel_rfl | decide
  obtain ⟨a0, c0, rfl, g1, g2⟩ := h.row.form
  obtain ⟨W, hW⟩ : ∃ W, W = w.alloc (.cells x.cells 89) := ⟨_, rfl⟩
  have hb0 : Below w.heap.size w W := by rw [hW]; exact (Below.refl _ _).alloc (Nat.le_refl _) _
  have hX0 : W.heap[w.heap.size]? = some (.cells x.cells 89 (0, 0)) := by rw [hW]; exact heap_alloc_new _ _
  have hF0 := hid ((h.below hb0).below ((Below.refl _ _).drew))
  have hX := hid (show W.drew.heap[w.heap.size]? = some (.cells x.cells 89 (0, 0)) from hX0)
  have hB0 := hid (sn hb0 ((Below.refl _ _).drew))
  have hE : Hid (aboveF u f who x = (((!decide (x.path = 1)) && (getL f.t.n x.up).isSome) && (u.may who (getN f.t.n x.up) 2))) := hid (by
    unfold aboveF getN
    cases getL f.t.n x.up with
    | none => simp
    | some d => by_cases hp : x.path = 1 <;> simp [hp])
  clear h hb0 hX0
  go_enter Tryz.func47, Tryz.ntmps47
  go_upto_region 1 with (rw [← hW]; replace hW := hid hW)
  try (rw [← hW]; replace hW := hid hW)
  refine wp_region_held (S := Below W.drew.heap.size W.drew) mixed ?_
  refine (show wpAnyH Tryz.prog .any ops_fab1 _ _ _ _ _ _ → _ from fun h => h) ?_
  refine fab1_all (w1 := W.drew) (k5 := w.heap.size) hF0.out hX.out ht (fun d u c a w h => by cases d <;> exact h) (FrL.of_all (by rfl) rfl ⟨rfl, rfl, rfl, trivial⟩) (Below.refl _ _) (fun a w1 g hF hS f1 f2 => ?_)
  have he := frame_eq hF [.pointer (some ⟨b, 0, none⟩), .string who, a.tmps.getD 2 undef, a.tmps.getD 3 undef, a.tmps.getD 4 undef, .pointer (some ⟨w.heap.size, 0, none⟩), a.tmps.getD 6 undef, .pointer (some ⟨g, 0, none⟩), .bool (getL f.t.n x.up).isSome, a.tmps.getD 9 undef, a.tmps.getD 10 undef, a.tmps.getD 11 undef, a.tmps.getD 12 undef, a.tmps.getD 13 undef, a.tmps.getD 14 undef, a.tmps.getD 15 undef, a.tmps.getD 16 undef, a.tmps.getD 17 undef, a.tmps.getD 18 undef, a.tmps.getD 19 undef, a.tmps.getD 20 undef, a.tmps.getD 21 undef, a.tmps.getD 22 undef, a.tmps.getD 23 undef, a.tmps.getD 24 undef, a.tmps.getD 25 undef, a.tmps.getD 26 undef, a.tmps.getD 27 undef, a.tmps.getD 28 undef, a.tmps.getD 29 undef, a.tmps.getD 30 undef, a.tmps.getD 31 undef, a.tmps.getD 32 undef, a.tmps.getD 33 undef] (by rfl) ⟨hF.get 0 _ rfl, hF.get 1 _ rfl, hF.any 2 (by decide), hF.any 3 (by decide), hF.any 4 (by decide), hF.get 5 _ rfl, hF.any 6 (by decide), hF.get 7 _ rfl, hF.get 8 _ rfl, hF.any 9 (by decide), hF.any 10 (by decide), hF.any 11 (by decide), hF.any 12 (by decide), hF.any 13 (by decide), hF.any 14 (by decide), hF.any 15 (by decide), hF.any 16 (by decide), hF.any 17 (by decide), hF.any 18 (by decide), hF.any 19 (by decide), hF.any 20 (by decide), hF.any 21 (by decide), hF.any 22 (by decide), hF.any 23 (by decide), hF.any 24 (by decide), hF.any 25 (by decide), hF.any 26 (by decide), hF.any 27 (by decide), hF.any 28 (by decide), hF.any 29 (by decide), hF.any 30 (by decide), hF.any 31 (by decide), hF.any 32 (by decide), hF.any 33 (by decide), trivial⟩
  rw [he]
  clear he hF
  generalize a.tmps.getD 2 undef = y2
  generalize a.tmps.getD 3 undef = y3
  generalize a.tmps.getD 4 undef = y4
  generalize a.tmps.getD 6 undef = y6
  generalize a.tmps.getD 9 undef = y9
  generalize a.tmps.getD 10 undef = y10
  generalize a.tmps.getD 11 undef = y11
  generalize a.tmps.getD 12 undef = y12
  generalize a.tmps.getD 13 undef = y13
  generalize a.tmps.getD 14 undef = y14
  generalize a.tmps.getD 15 undef = y15
  generalize a.tmps.getD 16 undef = y16
  generalize a.tmps.getD 17 undef = y17
  generalize a.tmps.getD 18 undef = y18
  generalize a.tmps.getD 19 undef = y19
  generalize a.tmps.getD 20 undef = y20
  generalize a.tmps.getD 21 undef = y21
  generalize a.tmps.getD 22 undef = y22
  generalize a.tmps.getD 23 undef = y23
  generalize a.tmps.getD 24 undef = y24
  generalize a.tmps.getD 25 undef = y25
  generalize a.tmps.getD 26 undef = y26
  generalize a.tmps.getD 27 undef = y27
  generalize a.tmps.getD 28 undef = y28
  generalize a.tmps.getD 29 undef = y29
  generalize a.tmps.getD 30 undef = y30
  generalize a.tmps.getD 31 undef = y31
  generalize a.tmps.getD 32 undef = y32
  generalize a.tmps.getD 33 undef = y33
  clear a
  have hd : Hid (w1.drew.heap[g]? = some (.cells (getN f.t.n x.up).cells 89 (0, 0))) := hid f1
  have hX2 := hid (show w1.drew.heap[w.heap.size]? = some (.cells x.cells 89 (0, 0)) from (hS.block _ (lt_of_block hX.out)).trans hX.out)
  have hF2 := hid ((hF0.out.below hS).below ((Below.refl _ _).drew))
  have hB2 := hid (sn (sn hB0.out hS) ((Below.refl _ _).drew))
  have hdk : Hid ((getL f.t.n x.up).isSome = true → NodOk (getN f.t.n x.up)) := hid (by
    intro hs
    obtain ⟨d, hd⟩ := Option.isSome_iff_exists.1 hs
    unfold getN
    rw [hd]
    exact ht.ok d (getL_some hd).1)
  clear hS f1 f2 hF0 hX hB0
  go_upto_region 2 with fail
  refine wp_region_held (S := Below w1.drew.heap.size w1.drew) mixed ?_
  refine (show wpAnyH Tryz.prog .any ops_fab2 _ _ _ _ _ _ → _ from fun h => h) ?_
  refine fab2_all (w1 := w1.drew) (v0 := undef) (k5 := w.heap.size) (k7 := g) hF2.out hub hX2.out hd.out hdk.out (fun d u c a w h => by cases d <;> exact h) (FrL.of_all (by rfl) rfl ⟨rfl, rfl, rfl, rfl, rfl, trivial⟩) (Below.refl _ _) (fun a w2 hF hS => ?_)
  have he := frame_eq hF [a.tmps.getD 0 undef, a.tmps.getD 1 undef, a.tmps.getD 2 undef, a.tmps.getD 3 undef, a.tmps.getD 4 undef, a.tmps.getD 5 undef, .bool (((!decide (x.path = 1)) && (getL f.t.n x.up).isSome) && (u.may who (getN f.t.n x.up) 2)), a.tmps.getD 7 undef, a.tmps.getD 8 undef, a.tmps.getD 9 undef, a.tmps.getD 10 undef, a.tmps.getD 11 undef, a.tmps.getD 12 undef, a.tmps.getD 13 undef, a.tmps.getD 14 undef, a.tmps.getD 15 undef, a.tmps.getD 16 undef, a.tmps.getD 17 undef, a.tmps.getD 18 undef, a.tmps.getD 19 undef, a.tmps.getD 20 undef, a.tmps.getD 21 undef, a.tmps.getD 22 undef, a.tmps.getD 23 undef, a.tmps.getD 24 undef, a.tmps.getD 25 undef, a.tmps.getD 26 undef, a.tmps.getD 27 undef, a.tmps.getD 28 undef, a.tmps.getD 29 undef, a.tmps.getD 30 undef, a.tmps.getD 31 undef, a.tmps.getD 32 undef, a.tmps.getD 33 undef] (by rfl) ⟨hF.any 0 (by decide), hF.any 1 (by decide), hF.any 2 (by decide), hF.any 3 (by decide), hF.any 4 (by decide), hF.any 5 (by decide), hF.get 6 _ rfl, hF.any 7 (by decide), hF.any 8 (by decide), hF.any 9 (by decide), hF.any 10 (by decide), hF.any 11 (by decide), hF.any 12 (by decide), hF.any 13 (by decide), hF.any 14 (by decide), hF.any 15 (by decide), hF.any 16 (by decide), hF.any 17 (by decide), hF.any 18 (by decide), hF.any 19 (by decide), hF.any 20 (by decide), hF.any 21 (by decide), hF.any 22 (by decide), hF.any 23 (by decide), hF.any 24 (by decide), hF.any 25 (by decide), hF.any 26 (by decide), hF.any 27 (by decide), hF.any 28 (by decide), hF.any 29 (by decide), hF.any 30 (by decide), hF.any 31 (by decide), hF.any 32 (by decide), hF.any 33 (by decide), trivial⟩
  rw [he]
  clear he hF
  generalize a.tmps.getD 0 undef = y0
  generalize a.tmps.getD 1 undef = y1
  generalize a.tmps.getD 2 undef = y2
  generalize a.tmps.getD 3 undef = y3
  generalize a.tmps.getD 4 undef = y4
  generalize a.tmps.getD 5 undef = y5
  generalize a.tmps.getD 7 undef = y7
  generalize a.tmps.getD 8 undef = y8
  generalize a.tmps.getD 9 undef = y9
  generalize a.tmps.getD 10 undef = y10
  generalize a.tmps.getD 11 undef = y11
  generalize a.tmps.getD 12 undef = y12
  generalize a.tmps.getD 13 undef = y13
  generalize a.tmps.getD 14 undef = y14
  generalize a.tmps.getD 15 undef = y15
  generalize a.tmps.getD 16 undef = y16
  generalize a.tmps.getD 17 undef = y17
  generalize a.tmps.getD 18 undef = y18
  generalize a.tmps.getD 19 undef = y19
  generalize a.tmps.getD 20 undef = y20
  generalize a.tmps.getD 21 undef = y21
  generalize a.tmps.getD 22 undef = y22
  generalize a.tmps.getD 23 undef = y23
  generalize a.tmps.getD 24 undef = y24
  generalize a.tmps.getD 25 undef = y25
  generalize a.tmps.getD 26 undef = y26
  generalize a.tmps.getD 27 undef = y27
  generalize a.tmps.getD 28 undef = y28
  generalize a.tmps.getD 29 undef = y29
  generalize a.tmps.getD 30 undef = y30
  generalize a.tmps.getD 31 undef = y31
  generalize a.tmps.getD 32 undef = y32
  generalize a.tmps.getD 33 undef = y33
  clear a
  go_wp2_with fail
  go_ret
  rw [hE.out]
  exact ⟨rfl, sn hB2.out hS⟩

end
end Go.Proofs.YtkefjeabckainaaGreat
